/- A part of the proof that stands in this folder: a small machine whose steps are shown to be the steps of the model, or walks of functions by it. No condition of its own. -/
import Derived.Test.YtnonkjcklgihhaaGlLO
set_option linter.unusedVariables false
set_option linter.unusedSimpArgs false
namespace Go.Proofs.Ytnonkjcklgihhaa.Pam
open Go
def a_toldG (f_answered : FuncId) : AFn := ⟨3, 
  .seq (.reg [⟨some 3, none, .w (.box 2 (.t 0))⟩,
    ⟨some 6, none, .w (.alloc [.nilsl, .int .i64 0])⟩])
  (.seq (.seq (.reg [⟨some 9, none, .d (.mv (.t 1))⟩,
    ⟨some 10, none, .d (.len (.t 9))⟩,
    ⟨some 11, none, .d (.mv (.c (.int .i64 0)))⟩])
  (.block 0 (.loop (.seq (.reg [⟨some 12, none, .d (.bin .arith .lss (.t 11) (.t 10))⟩])
    (.seq (.cond (.t 12) (.skip) (.exit 0))
    (.seq (.block 1 (.seq (.reg [⟨some 13, none, .d (.mv (.t 11))⟩,
       ⟨some 14, none, .d (.ia 1 (.t 9) (.t 11))⟩,
       ⟨some 15, none, .d (.load false 1 (.t 14))⟩,
       ⟨some 7, none, .d (.mv (.t 13))⟩,
       ⟨some 8, none, .d (.mv (.t 15))⟩])
     (.dreg [] [([], ⟨some 16, none, .d (.load true 2 (.t 3))⟩),
       ([], ⟨some 17, none, .d (.mv (.t 8))⟩),
       ([], ⟨some 18, none, .d (.mv (.t 2))⟩),
       ([], ⟨some 19, none, .d (.mv (.t 7))⟩),
       ([], ⟨some 20, none, .d (.ia 1 (.t 18) (.t 19))⟩),
       ([], ⟨some 21, none, .d (.load false 1 (.t 20))⟩),
       ([], ⟨some 22, none, .d (.build [.int .i64 0, .bool false] [(0, 1, (.t 17)), (1, 1, (.t 21))])⟩)] [⟨some 23, none, .d (.call (.f f_answered) [(.t 16), (.t 22)])⟩,
       ⟨none, none, .w (.store 2 (.t 3) (.t 23))⟩])))
    (.reg [⟨some 24, none, .d (.bin .arith .add (.t 11) (.c (.int .i64 1)))⟩,
      ⟨some 11, none, .d (.mv (.t 24))⟩])))))))
  (.seq (.reg [⟨some 25, none, .d (.load true 2 (.t 3))⟩,
    ⟨none, none, .w (.store 2 (.t 6) (.t 25))⟩])
  (.ret))), [.cell 6 2 true]⟩
def n_toldG : Nat → Option Ann := fun _ => none
abbrev k_toldG : List Nat := [0, 1, 2, 3, 6, 7, 8, 9, 10, 11, 12]
abbrev o_toldG : List Nat := [3, 6]
def c_toldG : Con
  | [.p (.agg [.sl 1 xs, .int .i64 m]), .p (.sl 1 ls), .ar 1000000], [.arr 1 bs] => if isI xs = true ∧ isI ls = true ∧ isBo bs = true ∧ xs.length ≤ 1100000 ∧ ls.length ≤ 1100000 ∧ bs.length = ls.length ∧ m ≤ 1000 ∧ allSm m (ofI xs) = true then some (.ag [.p (.sl 1 (ints (endL m (ofI xs) (ofI ls) (ofBo bs)))), .p (.int .i64 m)], [.arr 1 bs], []) else none
  | _, _ => none
theorem s_toldG {P : Program} (hm : P.follows .mixedOrders = true) {Γ : Gam} (hΓ : GS P Γ) {n : FuncId} {f_answered : FuncId} (is : Is P n (a_toldG f_answered)) (h_answered : Γ f_answered = c_answered)  : Says P n c_toldG := by
  intro args ext r ext' fs h
  unfold c_toldG at h
  split at h
  case h_2 => cases h
  rename_i xs m ls bs
  split at h
  case isFalse => cases h
  rename_i hc
  obtain ⟨hx, hl, hb, hx0, hl0, hb0, hm1, hsm⟩ := hc
  obtain ⟨x, rfl⟩ := isI_out hx
  obtain ⟨l, rfl⟩ := isI_out hl
  obtain ⟨b, rfl⟩ := isBo_out hb
  simp only [ofI_ints, ofBo_bools, ints_len, bools_len] at h hx0 hl0 hb0 hsm
  simp only [Option.some.injEq, Prod.mk.injEq] at h
  obtain ⟨rfl, rfl, rfl⟩ := h
  rw [allSm_eq] at hsm
  have hok := fun k => allL_ok (st := st2 m) (m := m) st2_len st2_small hsm ((l.zip b).take k)
  have hzl : (l.zip b).length = l.length := by simp; omega
  refine is.goX hm hΓ k_toldG (1000000 :: o_toldG) (by simp [a_toldG]) (by simp) ?_
  simp only [a_toldG, ints_len, List.zipIdx_cons, List.zipIdx_nil, ↓SP, SQ, Gam.add, stepM, callC, argC, lendO, nmBy, nmC, likeL, likeB, plainOb, offs, exL, X, F, trP, trO, stepD, stepW, newA, SV.tr, SV.trL, fz, allP, Ob.tr, loadA, cellsA, SV.cells, binA, binI, eqOut, isSl, isPt, natOf, callee, snap, SV.refsL, SV.refs, thaw, fzAll, loA, hiA, elemOf, partsA, buildA, putCells, ↓reduceIte, reduceCtorEq, okCell, Nat.reduceAdd, Nat.reduceEqDiff, Nat.reduceSub, Nat.reduceMul, Nat.reduceLeDiff, Nat.reduceLT, Nat.reduceBEq, PV.scal, PV.scalL, SV.scal, SV.scalL, Ob.scal, PV.isCell, pure', resO]
  refine loop_at (fun s : Nat × SV × SV × SV => mkEnv [(0, .p (.agg [.sl 1 (ints x), .int .i64 m])), (1, .p (.sl 1 (ints l))), (2, .ar 1000000), (3, .bx 3 0), (6, .bx 6 0), (7, s.2.1), (8, s.2.2.1), (9, .p (.sl 1 (ints l))), (10, si l.length), (11, si s.1), (12, s.2.2.2)]) (fun s => mkO [(1000000, some (.arr 1 (bools b))), (3, some (.box [.p (.sl 1 (ints (allL (st2 m) x ((l.zip b).take s.1)))), si m])), (6, some (.box [.p .nilsl, si 0]))]) (fun s => s.1 ≤ l.length) (fun s => l.length - s.1) (0, .junk, .junk, .junk) (by simp) rfl rfl ?_
  rintro ⟨i, c1, c2, c3⟩ hi R hR hN
  simp only at hi
  by_cases h : i < l.length
  · have h1 : (i : Int) < l.length := by omega
    have hw := wrap_one (i := i) (by omega)
    have hg := ints_get h
    have hg2 := bools_get (l := b) (i := i) (by omega)
    have hl1 : (allL (st2 m) x ((l.zip b).take i)).length ≤ 1100000 := by rw [(hok i).1]; omega
    have hl2 := small_1000 (hok i).2 hm1
    have hal := allL_one (st2 m) x (l.zip b) i (by omega)
    have hib : i < b.length := by omega
    rw [zip_getD l b i h (by omega)] at hal
    simp only [h, h1, hw, hg, hg2, hib, h_answered, c_answered, hl1, hl2, ↓SP, SQ, Gam.add, stepM, callC, argC, lendO, nmBy, nmC, likeL, likeB, plainOb, offs, exL, X, F, trP, trO, stepD, stepW, newA, SV.tr, SV.trL, fz, allP, Ob.tr, loadA, cellsA, SV.cells, binA, binI, eqOut, isSl, isPt, natOf, callee, snap, SV.refsL, SV.refs, thaw, fzAll, loA, hiA, elemOf, partsA, buildA, putCells, ↓reduceIte, reduceCtorEq, okCell, Nat.reduceAdd, Nat.reduceEqDiff, Nat.reduceSub, Nat.reduceMul, Nat.reduceLeDiff, Nat.reduceLT, Nat.reduceBEq, PV.scal, PV.scalL, SV.scal, SV.scalL, Ob.scal, PV.isCell, pure', resO]
    refine hN (i + 1, _, _, _) _ _ (by simp only; omega) (by simp only; omega) rfl (by rw [hal]; rfl)
  · have he : i = l.length := by omega
    have h1 : ¬ (i : Int) < l.length := by omega
    simp only [h1, ↓SP, SQ, Gam.add, stepM, callC, argC, lendO, nmBy, nmC, likeL, likeB, plainOb, offs, exL, X, F, trP, trO, stepD, stepW, newA, SV.tr, SV.trL, fz, allP, Ob.tr, loadA, cellsA, SV.cells, binA, binI, eqOut, isSl, isPt, natOf, callee, snap, SV.refsL, SV.refs, thaw, fzAll, loA, hiA, elemOf, partsA, buildA, putCells, ↓reduceIte, reduceCtorEq, okCell, Nat.reduceAdd, Nat.reduceEqDiff, Nat.reduceSub, Nat.reduceMul, Nat.reduceLeDiff, Nat.reduceLT, Nat.reduceBEq, PV.scal, PV.scalL, SV.scal, SV.scalL, Ob.scal, PV.isCell, pure', resO]
    refine hR _ _ _ (by intro h; cases h) ?_
    simp only [↓SP, SQ, Gam.add, stepM, callC, argC, lendO, nmBy, nmC, likeL, likeB, plainOb, offs, exL, X, F, trP, trO, stepD, stepW, newA, SV.tr, SV.trL, fz, allP, Ob.tr, loadA, cellsA, SV.cells, binA, binI, eqOut, isSl, isPt, natOf, callee, snap, SV.refsL, SV.refs, thaw, fzAll, loA, hiA, elemOf, partsA, buildA, putCells, ↓reduceIte, reduceCtorEq, okCell, Nat.reduceAdd, Nat.reduceEqDiff, Nat.reduceSub, Nat.reduceMul, Nat.reduceLeDiff, Nat.reduceLT, Nat.reduceBEq, PV.scal, PV.scalL, SV.scal, SV.scalL, Ob.scal, PV.isCell, pure', resO]
    have ht : (l.zip b).take i = l.zip b := by rw [he, ← hzl]; exact List.take_length
    refine finA_gen [] trivial (by simp [retA, rvA, mkE_cons, mk_nil, mkO_cons, mkO_nil, loadA, SV.tr, SV.trL, nmF, rn_nil, rn_cons1, rn_cons2, plainOb, SV.refsL, SV.refs, Ob.refs, X, F, List.range_succ, mkO, setO_mk]; rfl) ?_ ?_ ?_ ?_ ?_ ?_ ?_ <;> simp [ht, endL, retA, rvA, mkE_cons, mk_nil, mkO_cons, mkO_nil, loadA, SV.tr, SV.trL, nmF, rn_nil, rn_cons1, rn_cons2, plainOb, SV.refsL, SV.refs, Ob.refs, X, F, List.range_succ, mkO, setO_mk]
def a_mk1 : AFn := ⟨4, 
  .seq (.reg [⟨some 6, none, .d (.mv (.t 1))⟩,
    ⟨some 7, none, .d (.load false 1 (.t 2))⟩,
    ⟨some 8, none, .d (.bin .arith .gtr (.t 6) (.t 7))⟩])
  (.cond (.t 8) (.reg [⟨some 9, none, .d (.mv (.t 1))⟩,
     ⟨some 10, none, .d (.mv (.t 0))⟩,
     ⟨none, none, .w (.store 1 (.t 2) (.t 9))⟩,
     ⟨none, none, .w (.store 1 (.t 3) (.t 10))⟩]) (.skip)), []⟩
def n_mk1 : Nat → Option Ann := fun _ => none
abbrev k_mk1 : List Nat := [0, 1, 2, 3, 8]
abbrev o_mk1 : List Nat := []
def c_mk1 : Con
  | [.ar 1000002, .p (.int .i64 n), .bx 1000000 0, .bx 1000001 0], [.box [.p (.int .i64 b)], .box [.p .nilsl], .arr 1 xs] => if b < n then some (.tp [], [.box [.p (.int .i64 n)], .box [.ar 2000000], .box []], [.arr 1 xs]) else some (.tp [], [.box [.p (.int .i64 b)], .box [.p .nilsl], .arr 1 xs], [])
  | [.ar 1000002, .p (.int .i64 n), .bx 1000000 0, .bx 1000001 0], [.box [.p (.int .i64 b)], .box [.ar 1000003], .arr 1 xs, .arr 1 ys] => if b < n then some (.tp [], [.box [.p (.int .i64 n)], .box [.ar 2000000], .box [], .box []], [.arr 1 xs]) else some (.tp [], [.box [.p (.int .i64 b)], .box [.ar 2000000], .arr 1 xs, .box []], [.arr 1 ys])
  | _, _ => none
theorem s_mk1 {P : Program} (hm : P.follows .mixedOrders = true) {Γ : Gam} (hΓ : GS P Γ) {n : FuncId} (is : Is P n a_mk1)  : Says P n c_mk1 := by
  intro args ext r ext' fs h
  have g20 : gvN [2] 1000000 = some 1000000 := rfl
  have g21 : gvN [2] 1000001 = some 1000001 := rfl
  have g22 : gvN [2] 1000002 = some 900002 := rfl
  have m20 : gvM [2] 0 = 1000000 := rfl
  have m21 : gvM [2] 1 = 1000001 := rfl
  have m22 : gvM [2] 2 = 900002 := rfl
  have g30 : gvN [3] 1000000 = some 1000000 := rfl
  have g31 : gvN [3] 1000001 = some 1000001 := rfl
  have g32 : gvN [3] 1000002 = some 1000002 := rfl
  have g33 : gvN [3] 1000003 = some 900003 := rfl
  have m30 : gvM [3] 0 = 1000000 := rfl
  have m31 : gvM [3] 1 = 1000001 := rfl
  have m32 : gvM [3] 2 = 1000002 := rfl
  have m33 : gvM [3] 3 = 900003 := rfl
  have g40 : gvN [2, 3] 1000000 = some 1000000 := rfl
  have g41 : gvN [2, 3] 1000001 = some 1000001 := rfl
  have g42 : gvN [2, 3] 1000002 = some 900002 := rfl
  have g43 : gvN [2, 3] 1000003 = some 900003 := rfl
  have m40 : gvM [2, 3] 0 = 1000000 := rfl
  have m41 : gvM [2, 3] 1 = 1000001 := rfl
  have m42 : gvM [2, 3] 2 = 900002 := rfl
  have m43 : gvM [2, 3] 3 = 900003 := rfl
  unfold c_mk1 at h
  split at h
  case h_3 => cases h
  · rename_i n b xs
    split at h
    · rename_i hc
      simp only [Option.some.injEq, Prod.mk.injEq] at h
      obtain ⟨rfl, rfl, rfl⟩ := h
      have hc' : n > b := hc
      refine is.goG hm hΓ k_mk1 (1000000 :: 1000001 :: 900002 :: o_mk1) [2] (by simp [a_mk1]) (by simp) ?_
      simp only [a_mk1, g20, g21, g22, m20, m21, m22, hc, List.zipIdx_cons, List.zipIdx_nil, ↓SP, SQ, Gam.add, stepM, callC, argC, lendO, nmBy, nmC, likeL, likeB, plainOb, offs, exL, X, F, trP, trO, stepD, stepW, newA, SV.tr, SV.trL, fz, allP, Ob.tr, loadA, cellsA, SV.cells, binA, binI, eqOut, isSl, isPt, natOf, callee, snap, SV.refsL, SV.refs, thaw, fzAll, loA, hiA, elemOf, partsA, buildA, putCells, ↓reduceIte, reduceCtorEq, okCell, Nat.reduceAdd, Nat.reduceEqDiff, Nat.reduceSub, Nat.reduceMul, Nat.reduceLeDiff, Nat.reduceLT, Nat.reduceBEq, PV.scal, PV.scalL, SV.scal, SV.scalL, Ob.scal, PV.isCell, pure', resO]
      refine finG_gen [900002] trivial (by simp [retA, rvA, mkE_cons, mk_nil, mkO_cons, mkO_nil, loadA, SV.tr, SV.trL, nmF, rn_nil, rn_cons1, rn_cons2, plainOb, SV.refsL, SV.refs, Ob.refs, X, F, List.range_succ, mkO, setO_mk]; rfl) ?_ ?_ ?_ ?_ ?_ ?_ <;> simp [goneAt, gone, Ob.tr, retA, rvA, mkE_cons, mk_nil, mkO_cons, mkO_nil, loadA, SV.tr, SV.trL, nmF, rn_nil, rn_cons1, rn_cons2, plainOb, SV.refsL, SV.refs, Ob.refs, X, F, List.range_succ, mkO, setO_mk]
    · rename_i hc
      simp only [Option.some.injEq, Prod.mk.injEq] at h
      obtain ⟨rfl, rfl, rfl⟩ := h
      refine is.goX hm hΓ k_mk1 (1000000 :: 1000001 :: 1000002 :: o_mk1) (by simp [a_mk1]) (by simp) ?_
      simp only [a_mk1, hc, List.zipIdx_cons, List.zipIdx_nil, ↓SP, SQ, Gam.add, stepM, callC, argC, lendO, nmBy, nmC, likeL, likeB, plainOb, offs, exL, X, F, trP, trO, stepD, stepW, newA, SV.tr, SV.trL, fz, allP, Ob.tr, loadA, cellsA, SV.cells, binA, binI, eqOut, isSl, isPt, natOf, callee, snap, SV.refsL, SV.refs, thaw, fzAll, loA, hiA, elemOf, partsA, buildA, putCells, ↓reduceIte, reduceCtorEq, okCell, Nat.reduceAdd, Nat.reduceEqDiff, Nat.reduceSub, Nat.reduceMul, Nat.reduceLeDiff, Nat.reduceLT, Nat.reduceBEq, PV.scal, PV.scalL, SV.scal, SV.scalL, Ob.scal, PV.isCell, pure', resO]
      refine finA_gen [] trivial (by simp [retA, rvA, mkE_cons, mk_nil, mkO_cons, mkO_nil, loadA, SV.tr, SV.trL, nmF, rn_nil, rn_cons1, rn_cons2, plainOb, SV.refsL, SV.refs, Ob.refs, X, F, List.range_succ, mkO, setO_mk]; rfl) ?_ ?_ ?_ ?_ ?_ ?_ ?_ <;> simp [retA, rvA, mkE_cons, mk_nil, mkO_cons, mkO_nil, loadA, SV.tr, SV.trL, nmF, rn_nil, rn_cons1, rn_cons2, plainOb, SV.refsL, SV.refs, Ob.refs, X, F, List.range_succ, mkO, setO_mk]
  · rename_i n b xs ys
    split at h
    · rename_i hc
      simp only [Option.some.injEq, Prod.mk.injEq] at h
      obtain ⟨rfl, rfl, rfl⟩ := h
      refine is.goG hm hΓ k_mk1 (1000000 :: 1000001 :: 900002 :: 900003 :: o_mk1) [2, 3] (by simp [a_mk1]) (by simp) ?_
      simp only [a_mk1, g40, g41, g42, g43, m40, m41, m42, m43, hc, List.zipIdx_cons, List.zipIdx_nil, ↓SP, SQ, Gam.add, stepM, callC, argC, lendO, nmBy, nmC, likeL, likeB, plainOb, offs, exL, X, F, trP, trO, stepD, stepW, newA, SV.tr, SV.trL, fz, allP, Ob.tr, loadA, cellsA, SV.cells, binA, binI, eqOut, isSl, isPt, natOf, callee, snap, SV.refsL, SV.refs, thaw, fzAll, loA, hiA, elemOf, partsA, buildA, putCells, ↓reduceIte, reduceCtorEq, okCell, Nat.reduceAdd, Nat.reduceEqDiff, Nat.reduceSub, Nat.reduceMul, Nat.reduceLeDiff, Nat.reduceLT, Nat.reduceBEq, PV.scal, PV.scalL, SV.scal, SV.scalL, Ob.scal, PV.isCell, pure', resO]
      refine finG_gen [900002] trivial (by simp [retA, rvA, mkE_cons, mk_nil, mkO_cons, mkO_nil, loadA, SV.tr, SV.trL, nmF, rn_nil, rn_cons1, rn_cons2, plainOb, SV.refsL, SV.refs, Ob.refs, X, F, List.range_succ, mkO, setO_mk]; rfl) ?_ ?_ ?_ ?_ ?_ ?_ <;> simp [goneAt, gone, Ob.tr, retA, rvA, mkE_cons, mk_nil, mkO_cons, mkO_nil, loadA, SV.tr, SV.trL, nmF, rn_nil, rn_cons1, rn_cons2, plainOb, SV.refsL, SV.refs, Ob.refs, X, F, List.range_succ, mkO, setO_mk]
    · rename_i hc
      simp only [Option.some.injEq, Prod.mk.injEq] at h
      obtain ⟨rfl, rfl, rfl⟩ := h
      refine is.goG hm hΓ k_mk1 (1000000 :: 1000001 :: 1000002 :: 900003 :: o_mk1) [3] (by simp [a_mk1]) (by simp) ?_
      simp only [a_mk1, g30, g31, g32, g33, m30, m31, m32, m33, hc, List.zipIdx_cons, List.zipIdx_nil, ↓SP, SQ, Gam.add, stepM, callC, argC, lendO, nmBy, nmC, likeL, likeB, plainOb, offs, exL, X, F, trP, trO, stepD, stepW, newA, SV.tr, SV.trL, fz, allP, Ob.tr, loadA, cellsA, SV.cells, binA, binI, eqOut, isSl, isPt, natOf, callee, snap, SV.refsL, SV.refs, thaw, fzAll, loA, hiA, elemOf, partsA, buildA, putCells, ↓reduceIte, reduceCtorEq, okCell, Nat.reduceAdd, Nat.reduceEqDiff, Nat.reduceSub, Nat.reduceMul, Nat.reduceLeDiff, Nat.reduceLT, Nat.reduceBEq, PV.scal, PV.scalL, SV.scal, SV.scalL, Ob.scal, PV.isCell, pure', resO]
      refine finG_gen [900003] trivial (by simp [retA, rvA, mkE_cons, mk_nil, mkO_cons, mkO_nil, loadA, SV.tr, SV.trL, nmF, rn_nil, rn_cons1, rn_cons2, plainOb, SV.refsL, SV.refs, Ob.refs, X, F, List.range_succ, mkO, setO_mk]; rfl) ?_ ?_ ?_ ?_ ?_ ?_ <;> simp [goneAt, gone, Ob.tr, retA, rvA, mkE_cons, mk_nil, mkO_cons, mkO_nil, loadA, SV.tr, SV.trL, nmF, rn_nil, rn_cons1, rn_cons2, plainOb, SV.refsL, SV.refs, Ob.refs, X, F, List.range_succ, mkO, setO_mk]
/-- What stands in two boxes once a function handed on was called with all lists of answers; the second box keeps one of them. -/
def runG (Γ0 : Gam) (g : FuncId) (f : Nat → List Bool × Int) : Nat → PV → Option (PV × Option (List PV))
  | 0, u => some (u, none)
  | k + 1, u => match runG Γ0 g f k u with
    | some (u', none) => (match Γ0 g [.ar 1000002, .p (.int .i64 (f k).2), .bx 1000000 0, .bx 1000001 0] [.box [.p u'], .box [.p .nilsl], .arr 1 (bools (f k).1)] with
      | some (.tp [], [.box [.p a], .box [.p .nilsl], .arr 1 xs], []) => if xs.length = (f k).1.length then some (a, none) else none
      | some (.tp [], [.box [.p a], .box [.ar 2000000], .box []], [.arr 1 zs]) => some (a, some zs)
      | _ => none)
    | some (u', some ys) => (match Γ0 g [.ar 1000002, .p (.int .i64 (f k).2), .bx 1000000 0, .bx 1000001 0] [.box [.p u'], .box [.ar 1000003], .arr 1 (bools (f k).1), .arr 1 ys] with
      | some (.tp [], [.box [.p a], .box [.ar 2000000], .arr 1 xs, .box []], [.arr 1 zs]) => if xs.length = (f k).1.length then some (a, some zs) else none
      | some (.tp [], [.box [.p a], .box [.ar 2000000], .box [], .box []], [.arr 1 zs]) => some (a, some zs)
      | _ => none)
    | none => none
theorem runG_some {Γ0 : Gam} {g : FuncId} {f : Nat → List Bool × Int} {u : PV} {r : PV × Option (List PV)} : ∀ {k : Nat}, runG Γ0 g f k u = some r → ∀ j, j < k → ∃ r1 r2, runG Γ0 g f j u = some r1 ∧ runG Γ0 g f (j + 1) u = some r2
  | 0, _, j, hj => by omega
  | k + 1, h, j, hj => by
    by_cases hjk : j = k
    · subst hjk
      cases he : runG Γ0 g f j u with
      | none => simp only [runG, he] at h; cases h
      | some r1 => exact ⟨r1, r, rfl, h⟩
    · cases he : runG Γ0 g f k u with
      | none => simp only [runG, he] at h; cases h
      | some r1 => exact runG_some he j (by omega)
/-- One step: the box was empty. -/
theorem runG_n {Γ0 : Gam} {g : FuncId} {f : Nat → List Bool × Int} {u u' : PV} {r2 : PV × Option (List PV)} {k : Nat} (h1 : runG Γ0 g f k u = some (u', none)) (h2 : runG Γ0 g f (k + 1) u = some r2) :
    (∃ a xs, xs.length = (f k).1.length ∧ r2 = (a, none) ∧ Γ0 g [.ar 1000002, .p (.int .i64 (f k).2), .bx 1000000 0, .bx 1000001 0] [.box [.p u'], .box [.p .nilsl], .arr 1 (bools (f k).1)] = some (.tp [], [.box [.p a], .box [.p .nilsl], .arr 1 xs], [])) ∨
    ∃ a zs, r2 = (a, some zs) ∧ Γ0 g [.ar 1000002, .p (.int .i64 (f k).2), .bx 1000000 0, .bx 1000001 0] [.box [.p u'], .box [.p .nilsl], .arr 1 (bools (f k).1)] = some (.tp [], [.box [.p a], .box [.ar 2000000], .box []], [.arr 1 zs]) := by
  simp only [runG, h1] at h2
  split at h2
  · rename_i a xs he
    split at h2
    · rename_i hl
      injection h2 with h2
      exact .inl ⟨a, xs, hl, h2.symm, he⟩
    · cases h2
  · rename_i a zs he
    injection h2 with h2
    exact .inr ⟨a, zs, h2.symm, he⟩
  · cases h2
theorem runG_s {Γ0 : Gam} {g : FuncId} {f : Nat → List Bool × Int} {u u' : PV} {ys : List PV} {r2 : PV × Option (List PV)} {k : Nat} (h1 : runG Γ0 g f k u = some (u', some ys)) (h2 : runG Γ0 g f (k + 1) u = some r2) :
    (∃ a xs zs, xs.length = (f k).1.length ∧ r2 = (a, some zs) ∧ Γ0 g [.ar 1000002, .p (.int .i64 (f k).2), .bx 1000000 0, .bx 1000001 0] [.box [.p u'], .box [.ar 1000003], .arr 1 (bools (f k).1), .arr 1 ys] = some (.tp [], [.box [.p a], .box [.ar 2000000], .arr 1 xs, .box []], [.arr 1 zs])) ∨
    ∃ a zs, r2 = (a, some zs) ∧ Γ0 g [.ar 1000002, .p (.int .i64 (f k).2), .bx 1000000 0, .bx 1000001 0] [.box [.p u'], .box [.ar 1000003], .arr 1 (bools (f k).1), .arr 1 ys] = some (.tp [], [.box [.p a], .box [.ar 2000000], .box [], .box []], [.arr 1 zs]) := by
  simp only [runG, h1] at h2
  split at h2
  · rename_i a xs zs he
    split at h2
    · rename_i hl
      injection h2 with h2
      exact .inl ⟨a, xs, zs, hl, h2.symm, he⟩
    · cases h2
  · rename_i a zs he
    injection h2 with h2
    exact .inr ⟨a, zs, h2.symm, he⟩
  · cases h2
def bxG : Option (List PV) → SV
  | none => .p .nilsl
  | some _ => .ar 40
def arG : Option (List PV) → Option Ob
  | none => none
  | some ys => some (.arr 1 ys)
def a_listsG (f_has : FuncId) (f_toldG : FuncId) (f_opened : FuncId) : AFn := ⟨3, 
  .seq (.reg [⟨some 3, none, .w (.box 2 (.t 0))⟩])
  (.seq (.reg [⟨some 10, none, .d (.mv (.t 1))⟩,
    ⟨some 11, none, .d (.len (.t 10))⟩,
    ⟨some 6, none, .d (.mv (.t 11))⟩])
  (.seq (.reg [⟨some 12, none, .d (.mv (.t 6))⟩,
    ⟨some 13, none, .d (.bin .arith .shl (.c (.int .i64 1)) (.t 12))⟩,
    ⟨some 14, none, .d (.mv (.c (.int .i64 0)))⟩])
  (.block 0 (.loop (.seq (.reg [⟨some 15, none, .d (.bin .arith .lss (.t 14) (.t 13))⟩])
    (.seq (.cond (.t 15) (.skip) (.exit 0))
    (.seq (.block 1 (.seq (.reg [⟨some 16, none, .d (.mv (.t 14))⟩,
       ⟨some 7, none, .d (.mv (.t 16))⟩])
     (.seq (.reg [⟨some 17, none, .w (.bslice 1 [] [])⟩,
       ⟨some 8, none, .d (.mv (.t 17))⟩])
     (.seq (.seq (.reg [⟨some 18, none, .d (.mv (.t 6))⟩,
       ⟨some 19, none, .d (.mv (.c (.int .i64 0)))⟩])
     (.block 2 (.loop (.seq (.reg [⟨some 20, none, .d (.bin .arith .lss (.t 19) (.t 18))⟩])
       (.seq (.cond (.t 20) (.skip) (.exit 2))
       (.seq (.block 3 (.seq (.reg [⟨some 21, none, .d (.mv (.t 19))⟩,
          ⟨some 9, none, .d (.mv (.t 21))⟩])
        (.reg [⟨some 22, none, .d (.mv (.t 8))⟩,
          ⟨some 23, none, .d (.mv (.t 7))⟩,
          ⟨some 24, none, .d (.mv (.t 6))⟩,
          ⟨some 25, none, .d (.bin .arith .sub (.t 24) (.c (.int .i64 1)))⟩,
          ⟨some 26, none, .d (.mv (.t 9))⟩,
          ⟨some 27, none, .d (.bin .arith .sub (.t 25) (.t 26))⟩,
          ⟨some 28, none, .d (.call (.f f_has) [(.t 23), (.t 27)])⟩,
          ⟨some 29, none, .w (.bslice 1 [.bool false] [(0, (.t 28))])⟩,
          ⟨some 30, none, .w (.append 1 (.t 22) (.t 29))⟩,
          ⟨some 8, none, .d (.mv (.t 30))⟩])))
       (.reg [⟨some 31, none, .d (.bin .arith .add (.t 19) (.c (.int .i64 1)))⟩,
         ⟨some 19, none, .d (.mv (.t 31))⟩])))))))
     (.reg [⟨some 32, none, .d (.mv (.t 2))⟩,
       ⟨some 33, none, .d (.mv (.t 8))⟩,
       ⟨some 34, none, .d (.load true 2 (.t 3))⟩,
       ⟨some 35, none, .d (.mv (.t 1))⟩,
       ⟨some 36, none, .d (.mv (.t 8))⟩,
       ⟨some 37, none, .w (.callL (.f f_toldG) [(.t 34), (.t 35), (.t 36)] [17] 0 false)⟩,
       ⟨some 38, none, .d (.call (.f f_opened) [(.t 37)])⟩,
       ⟨some 39, none, .d (.len (.t 38))⟩,
       ⟨some 40, none, .w (.callL (.t 32) [(.t 33), (.t 39)] [1000000, 1000001, 17, 40] 101 false)⟩])))))
    (.reg [⟨some 41, none, .d (.bin .arith .add (.t 14) (.c (.int .i64 1)))⟩,
      ⟨some 14, none, .d (.mv (.t 41))⟩])))))))), []⟩
def n_listsG : Nat → Option Ann := fun d => if d = 40 then some ⟨[1000000, 1000001, 17, 40], 101, false⟩ else if d = 37 then some ⟨[17], 0, false⟩ else none
abbrev k_listsG : List Nat := [0, 1, 2, 3, 6, 7, 8, 9, 13, 14, 15, 18, 19, 20]
abbrev o_listsG : List Nat := [3, 17, 29, 30, 40]
def c_listsG (Γ0 : Gam) : Con
  | [.p (.agg [.sl 1 xs, .int .i64 m]), .p (.sl 1 ls), .cl g [] [.bx 1000000 0, .bx 1000001 0]], [.box [.p u], .box [.p .nilsl]] => if isI xs = true ∧ isI ls = true ∧ xs.length ≤ 1100000 ∧ ls.length ≤ 8 ∧ m ≤ 1000 ∧ allSm m (ofI xs) = true then (match runG Γ0 g (fK (ofI xs) m (ofI ls)) (2 ^ ls.length) u with
    | some (a, none) => some (.tp [], [.box [.p a], .box [.p .nilsl]], [])
    | some (a, some ys) => some (.tp [], [.box [.p a], .box [.ar 2000000]], [.arr 1 ys])
    | none => none) else none
  | _, _ => none
theorem s_listsG {P : Program} (hm : P.follows .mixedOrders = true) {Γ : Gam} (hΓ : GS P Γ) {n : FuncId} {f_has : FuncId} {f_toldG : FuncId} {f_opened : FuncId} (is : Is P n (a_listsG f_has f_toldG f_opened)) (h_has : Γ f_has = c_has) (h_toldG : Γ f_toldG = c_toldG) (h_opened : Γ f_opened = c_l2Open)  : Says P n (c_listsG Γ) := by
  intro args ext r ext' fs h
  unfold c_listsG at h
  split at h
  case h_2 => cases h
  rename_i xs m ls g u
  split at h
  case isFalse => cases h
  rename_i hc
  obtain ⟨hx, hl, hx0, hl0, hm1, hsm⟩ := hc
  obtain ⟨x, rfl⟩ := isI_out hx
  obtain ⟨l, rfl⟩ := isI_out hl
  rw [ints_len] at hx0 hl0
  rw [ofI_ints] at hsm
  simp only [ofI_ints, ints_len] at h
  have g0 : gvN [] 1000000 = some 1000000 := rfl
  have g1 : gvN [] 1000001 = some 1000001 := rfl
  have m0 : gvM [] 0 = 1000000 := rfl
  have m1 : gvM [] 1 = 1000001 := rfl
  obtain ⟨rr, hrun⟩ : ∃ rr, runG Γ g (fK x m l) (2 ^ l.length) u = some rr := by
    cases he : runG Γ g (fK x m l) (2 ^ l.length) u with
    | none => rw [he] at h; cases h
    | some rr => exact ⟨rr, rfl⟩
  rw [hrun] at h
  have hst := runG_some hrun
  have hsh := shl8 hl0
  have hp8 := pow8 hl0
  have hn0 : ¬ (l.length : Int) < 0 := by omega
  have hfin : r = .tp [] ∧ ((∃ a, rr = (a, none) ∧ ext' = [.box [.p a], .box [.p .nilsl]] ∧ fs = []) ∨ ∃ a ys, rr = (a, some ys) ∧ ext' = [.box [.p a], .box [.ar 2000000]] ∧ fs = [.arr 1 ys]) := by
    obtain ⟨a, o⟩ := rr
    cases o with
    | none =>
      simp only [Option.some.injEq, Prod.mk.injEq] at h
      exact ⟨h.1.symm, .inl ⟨a, rfl, h.2.1.symm, h.2.2.symm⟩⟩
    | some ys =>
      simp only [Option.some.injEq, Prod.mk.injEq] at h
      exact ⟨h.1.symm, .inr ⟨a, ys, rfl, h.2.1.symm, h.2.2.symm⟩⟩
  obtain ⟨rfl, hfin⟩ := hfin
  clear h
  refine is.goG hm hΓ k_listsG (1000000 :: 1000001 :: o_listsG) [] (by simp [a_listsG]) (by simp) ?_
  simp only [a_listsG, g0, g1, m0, m1, hsh, hn0, List.zipIdx_cons, List.zipIdx_nil, ↓SP, SQ, Gam.add, stepM, callC, argC, lendO, nmBy, nmC, likeL, likeB, plainOb, offs, exL, X, F, trP, trO, stepD, stepW, newA, SV.tr, SV.trL, fz, allP, Ob.tr, loadA, cellsA, SV.cells, binA, binI, eqOut, isSl, isPt, natOf, callee, snap, SV.refsL, SV.refs, thaw, fzAll, loA, hiA, elemOf, partsA, buildA, putCells, ↓reduceIte, reduceCtorEq, okCell, Nat.reduceAdd, Nat.reduceEqDiff, Nat.reduceSub, Nat.reduceMul, Nat.reduceLeDiff, Nat.reduceLT, Nat.reduceBEq, PV.scal, PV.scalL, SV.scal, SV.scalL, Ob.scal, PV.isCell, pure', resO]
  refine loop_at (fun s : Nat × PV × Option (List PV) × SV × SV × SV × SV × SV × SV × SV × Option Ob × Option Ob => mkEnv [(0, .p (.agg [.sl 1 (ints x), .int .i64 m])), (1, .p (.sl 1 (ints l))), (2, .cl g [] [.bx 1000000 0, .bx 1000001 0]), (3, .bx 3 0), (6, si l.length), (7, s.2.2.2.1), (8, s.2.2.2.2.1), (9, s.2.2.2.2.2.1), (13, si ((2 ^ l.length : Nat) : Int)), (14, si s.1), (15, s.2.2.2.2.2.2.1), (18, s.2.2.2.2.2.2.2.1), (19, s.2.2.2.2.2.2.2.2.1), (20, s.2.2.2.2.2.2.2.2.2.1)]) (fun s => mkO [(1000000, some (.box [.p s.2.1])), (1000001, some (.box [bxG s.2.2.1])), (3, some (.box [.p (.sl 1 (ints x)), si m])), (17, s.2.2.2.2.2.2.2.2.2.2.1), (29, s.2.2.2.2.2.2.2.2.2.2.2), (30, none), (40, arG s.2.2.1)]) (fun s => s.1 ≤ 2 ^ l.length ∧ runG Γ g (fK x m l) s.1 u = some (s.2.1, s.2.2.1)) (fun s => 2 ^ l.length - s.1) (0, u, none, .junk, .junk, .junk, .junk, .junk, .junk, .junk, none, none) (by simp [runG]) rfl rfl ?_
  rintro ⟨v, u1, os, c1, c2, c3, c4, c5, c6, c7, o17, ob0⟩ ⟨hv, hr⟩ R hR hN
  simp only at hv hr
  by_cases hlt : v < 2 ^ l.length
  · obtain ⟨r1, r2, e1, e2⟩ := hst v hlt
    rcases os with _ | ys
    · skip
      have h1 : (v : Int) < ((2 ^ l.length : Nat) : Int) := Int.ofNat_lt.2 hlt
      have hw := wrap_one (i := v) (by omega)
      simp only [h1, hw, bxG, arG, ↓SP, SQ, Gam.add, stepM, callC, argC, lendO, nmBy, nmC, likeL, likeB, plainOb, offs, exL, X, F, trP, trO, stepD, stepW, newA, SV.tr, SV.trL, fz, allP, Ob.tr, loadA, cellsA, SV.cells, binA, binI, eqOut, isSl, isPt, natOf, callee, snap, SV.refsL, SV.refs, thaw, fzAll, loA, hiA, elemOf, partsA, buildA, putCells, ↓reduceIte, reduceCtorEq, okCell, Nat.reduceAdd, Nat.reduceEqDiff, Nat.reduceSub, Nat.reduceMul, Nat.reduceLeDiff, Nat.reduceLT, Nat.reduceBEq, PV.scal, PV.scalL, SV.scal, SV.scalL, Ob.scal, PV.isCell, pure', resO]
      have hb8 : IntKind.i64.wrap ((l.length : Int) - 1) = (l.length : Int) - 1 := wrap64 (by omega) (by omega)
      refine loop_at (fun s : Nat × Option Ob × SV × SV => mkEnv [(0, .p (.agg [.sl 1 (ints x), .int .i64 m])), (1, .p (.sl 1 (ints l))), (2, .cl g [] [.bx 1000000 0, .bx 1000001 0]), (3, .bx 3 0), (6, si l.length), (7, si v), (8, .ar 17), (9, s.2.2.1), (13, si ((2 ^ l.length : Nat) : Int)), (14, si v), (15, .p (.bool true)), (18, si l.length), (19, si s.1), (20, s.2.2.2)]) (fun s => mkO [(1000000, some (.box [.p u1])), (1000001, some (.box [.p .nilsl])), (3, some (.box [.p (.sl 1 (ints x)), si m])), (17, some (.arr 1 (bools ((ansK l.length v).take s.1)))), (29, s.2.1), (30, none), (40, none)]) (fun s => s.1 ≤ l.length) (fun s => l.length - s.1) (0, Option.map (Ob.tr (fz 17 o17)) ob0, SV.tr (fz 17 o17) c3, SV.tr (fz 17 o17) c7) (by simp) rfl rfl ?_
      rintro ⟨j, ob, d1, d2⟩ hj R' hR' hN'
      simp only at hj
      by_cases hjl : j < l.length
      · have h2 : (j : Int) < l.length := by omega
        have hwj := wrap_one (i := j) (by omega)
        have hb : IntKind.i64.wrap ((l.length : Int) - 1 - (j : Int)) = ((l.length - 1 - j : Nat) : Int) := by rw [wrap64 (by omega) (by omega)]; omega
        have hb0 : (0 : Int) ≤ ((l.length - 1 - j : Nat) : Int) := by omega
        have hr' : ((ansK l.length v).take j).length + 1 ≤ roomA := by rw [List.length_take, ansK_len]; unfold roomA; omega
        have hao := ansK_one l.length v j hjl
        simp only [h2, hwj, hb8, hb, hb0, hr', h_has, c_has, bools_len, bools_app1, hao, bools_cell, ↓SP, SQ, Gam.add, stepM, callC, argC, lendO, nmBy, nmC, likeL, likeB, plainOb, offs, exL, X, F, trP, trO, stepD, stepW, newA, SV.tr, SV.trL, fz, allP, Ob.tr, loadA, cellsA, SV.cells, binA, binI, eqOut, isSl, isPt, natOf, callee, snap, SV.refsL, SV.refs, thaw, fzAll, loA, hiA, elemOf, partsA, buildA, putCells, ↓reduceIte, reduceCtorEq, okCell, Nat.reduceAdd, Nat.reduceEqDiff, Nat.reduceSub, Nat.reduceMul, Nat.reduceLeDiff, Nat.reduceLT, Nat.reduceBEq, PV.scal, PV.scalL, SV.scal, SV.scalL, Ob.scal, PV.isCell, pure', resO]
        exact hN' (j + 1, _, _, _) _ _ (by simp only; omega) (by simp only; omega) rfl rfl
      · have he : j = l.length := by omega
        have h2 : ¬ (j : Int) < l.length := by omega
        have ht : (ansK l.length v).take j = ansK l.length v := List.take_of_length_le (by rw [ansK_len]; omega)
        have g2 : l.length ≤ 1100000 := by omega
        have g3 := ansK_len l.length v
        have g4 : (endL m x l (ansK l.length v)).length ≤ 1100000 := by rw [(endL_ok (allSm_eq.1 hsm) l _).1]; exact hx0
        simp only [h2, ↓SP, SQ, Gam.add, stepM, callC, argC, lendO, nmBy, nmC, likeL, likeB, plainOb, offs, exL, X, F, trP, trO, stepD, stepW, newA, SV.tr, SV.trL, fz, allP, Ob.tr, loadA, cellsA, SV.cells, binA, binI, eqOut, isSl, isPt, natOf, callee, snap, SV.refsL, SV.refs, thaw, fzAll, loA, hiA, elemOf, partsA, buildA, putCells, ↓reduceIte, reduceCtorEq, okCell, Nat.reduceAdd, Nat.reduceEqDiff, Nat.reduceSub, Nat.reduceMul, Nat.reduceLeDiff, Nat.reduceLT, Nat.reduceBEq, PV.scal, PV.scalL, SV.scal, SV.scalL, Ob.scal, PV.isCell, pure', resO]
        refine hR' _ _ _ (by intro h; cases h) ?_
        rcases runG_n hr e2 with ⟨a, zs, hzl, rfl, hc3⟩ | ⟨a, zs, rfl, hc3⟩
        · have hzl2 : zs.length = l.length := hzl.trans (ansK_len _ _)
          have e3' : Γ g [.ar 1000002, .p (.int .i64 ((opens (endL m x l (ansK l.length v))).length : Int)), .bx 1000000 0, .bx 1000001 0] [.box [.p u1], .box [.p .nilsl], .arr 1 (bools (ansK l.length v))] = some (.tp [], [.box [.p a], .box [.p .nilsl], .arr 1 zs], []) := hc3
          simp only [ht, h_toldG, c_toldG, h_opened, c_l2Open, hx0, g2, g3, hm1, hsm, g4, ints_len, bools_len, isI_ints, ofI_ints, isBo_bools, ofBo_bools, e3', hw, hzl2, callG, likeG, gone, goneN, goneAt, updG, nmG, killE_mk, killO_mk, killT, killL, ↓SP, SQ, Gam.add, stepM, callC, argC, lendO, nmBy, nmC, likeL, likeB, plainOb, offs, exL, X, F, trP, trO, stepD, stepW, newA, SV.tr, SV.trL, fz, allP, Ob.tr, loadA, cellsA, SV.cells, binA, binI, eqOut, isSl, isPt, natOf, callee, snap, SV.refsL, SV.refs, thaw, fzAll, loA, hiA, elemOf, partsA, buildA, putCells, ↓reduceIte, reduceCtorEq, okCell, Nat.reduceAdd, Nat.reduceEqDiff, Nat.reduceSub, Nat.reduceMul, Nat.reduceLeDiff, Nat.reduceLT, Nat.reduceBEq, PV.scal, PV.scalL, SV.scal, SV.scalL, Ob.scal, PV.isCell, pure', resO]
          exact hN (v + 1, a, none, _, _, _, _, _, _, _, _, _) _ _ ⟨by simp only; omega, by simp only; exact e2⟩ (by simp only; omega) rfl rfl
        · skip
          have e3' : Γ g [.ar 1000002, .p (.int .i64 ((opens (endL m x l (ansK l.length v))).length : Int)), .bx 1000000 0, .bx 1000001 0] [.box [.p u1], .box [.p .nilsl], .arr 1 (bools (ansK l.length v))] = some (.tp [], [.box [.p a], .box [.ar 2000000], .box []], [.arr 1 zs]) := hc3
          simp only [ht, h_toldG, c_toldG, h_opened, c_l2Open, hx0, g2, g3, hm1, hsm, g4, ints_len, bools_len, isI_ints, ofI_ints, isBo_bools, ofBo_bools, e3', hw, callG, likeG, gone, goneN, goneAt, updG, nmG, killE_mk, killO_mk, killT, killL, ↓SP, SQ, Gam.add, stepM, callC, argC, lendO, nmBy, nmC, likeL, likeB, plainOb, offs, exL, X, F, trP, trO, stepD, stepW, newA, SV.tr, SV.trL, fz, allP, Ob.tr, loadA, cellsA, SV.cells, binA, binI, eqOut, isSl, isPt, natOf, callee, snap, SV.refsL, SV.refs, thaw, fzAll, loA, hiA, elemOf, partsA, buildA, putCells, ↓reduceIte, reduceCtorEq, okCell, Nat.reduceAdd, Nat.reduceEqDiff, Nat.reduceSub, Nat.reduceMul, Nat.reduceLeDiff, Nat.reduceLT, Nat.reduceBEq, PV.scal, PV.scalL, SV.scal, SV.scalL, Ob.scal, PV.isCell, pure', resO]
          exact hN (v + 1, a, some zs, _, _, _, _, _, _, _, _, _) _ _ ⟨by simp only; omega, by simp only; exact e2⟩ (by simp only; omega) rfl rfl
    · skip
      have h1 : (v : Int) < ((2 ^ l.length : Nat) : Int) := Int.ofNat_lt.2 hlt
      have hw := wrap_one (i := v) (by omega)
      simp only [h1, hw, bxG, arG, ↓SP, SQ, Gam.add, stepM, callC, argC, lendO, nmBy, nmC, likeL, likeB, plainOb, offs, exL, X, F, trP, trO, stepD, stepW, newA, SV.tr, SV.trL, fz, allP, Ob.tr, loadA, cellsA, SV.cells, binA, binI, eqOut, isSl, isPt, natOf, callee, snap, SV.refsL, SV.refs, thaw, fzAll, loA, hiA, elemOf, partsA, buildA, putCells, ↓reduceIte, reduceCtorEq, okCell, Nat.reduceAdd, Nat.reduceEqDiff, Nat.reduceSub, Nat.reduceMul, Nat.reduceLeDiff, Nat.reduceLT, Nat.reduceBEq, PV.scal, PV.scalL, SV.scal, SV.scalL, Ob.scal, PV.isCell, pure', resO]
      have hb8 : IntKind.i64.wrap ((l.length : Int) - 1) = (l.length : Int) - 1 := wrap64 (by omega) (by omega)
      refine loop_at (fun s : Nat × Option Ob × SV × SV => mkEnv [(0, .p (.agg [.sl 1 (ints x), .int .i64 m])), (1, .p (.sl 1 (ints l))), (2, .cl g [] [.bx 1000000 0, .bx 1000001 0]), (3, .bx 3 0), (6, si l.length), (7, si v), (8, .ar 17), (9, s.2.2.1), (13, si ((2 ^ l.length : Nat) : Int)), (14, si v), (15, .p (.bool true)), (18, si l.length), (19, si s.1), (20, s.2.2.2)]) (fun s => mkO [(1000000, some (.box [.p u1])), (1000001, some (.box [.ar 40])), (3, some (.box [.p (.sl 1 (ints x)), si m])), (17, some (.arr 1 (bools ((ansK l.length v).take s.1)))), (29, s.2.1), (30, none), (40, some (.arr 1 ys))]) (fun s => s.1 ≤ l.length) (fun s => l.length - s.1) (0, Option.map (Ob.tr (fz 17 o17)) ob0, SV.tr (fz 17 o17) c3, SV.tr (fz 17 o17) c7) (by simp) rfl rfl ?_
      rintro ⟨j, ob, d1, d2⟩ hj R' hR' hN'
      simp only at hj
      by_cases hjl : j < l.length
      · have h2 : (j : Int) < l.length := by omega
        have hwj := wrap_one (i := j) (by omega)
        have hb : IntKind.i64.wrap ((l.length : Int) - 1 - (j : Int)) = ((l.length - 1 - j : Nat) : Int) := by rw [wrap64 (by omega) (by omega)]; omega
        have hb0 : (0 : Int) ≤ ((l.length - 1 - j : Nat) : Int) := by omega
        have hr' : ((ansK l.length v).take j).length + 1 ≤ roomA := by rw [List.length_take, ansK_len]; unfold roomA; omega
        have hao := ansK_one l.length v j hjl
        simp only [h2, hwj, hb8, hb, hb0, hr', h_has, c_has, bools_len, bools_app1, hao, bools_cell, ↓SP, SQ, Gam.add, stepM, callC, argC, lendO, nmBy, nmC, likeL, likeB, plainOb, offs, exL, X, F, trP, trO, stepD, stepW, newA, SV.tr, SV.trL, fz, allP, Ob.tr, loadA, cellsA, SV.cells, binA, binI, eqOut, isSl, isPt, natOf, callee, snap, SV.refsL, SV.refs, thaw, fzAll, loA, hiA, elemOf, partsA, buildA, putCells, ↓reduceIte, reduceCtorEq, okCell, Nat.reduceAdd, Nat.reduceEqDiff, Nat.reduceSub, Nat.reduceMul, Nat.reduceLeDiff, Nat.reduceLT, Nat.reduceBEq, PV.scal, PV.scalL, SV.scal, SV.scalL, Ob.scal, PV.isCell, pure', resO]
        exact hN' (j + 1, _, _, _) _ _ (by simp only; omega) (by simp only; omega) rfl rfl
      · have he : j = l.length := by omega
        have h2 : ¬ (j : Int) < l.length := by omega
        have ht : (ansK l.length v).take j = ansK l.length v := List.take_of_length_le (by rw [ansK_len]; omega)
        have g2 : l.length ≤ 1100000 := by omega
        have g3 := ansK_len l.length v
        have g4 : (endL m x l (ansK l.length v)).length ≤ 1100000 := by rw [(endL_ok (allSm_eq.1 hsm) l _).1]; exact hx0
        simp only [h2, ↓SP, SQ, Gam.add, stepM, callC, argC, lendO, nmBy, nmC, likeL, likeB, plainOb, offs, exL, X, F, trP, trO, stepD, stepW, newA, SV.tr, SV.trL, fz, allP, Ob.tr, loadA, cellsA, SV.cells, binA, binI, eqOut, isSl, isPt, natOf, callee, snap, SV.refsL, SV.refs, thaw, fzAll, loA, hiA, elemOf, partsA, buildA, putCells, ↓reduceIte, reduceCtorEq, okCell, Nat.reduceAdd, Nat.reduceEqDiff, Nat.reduceSub, Nat.reduceMul, Nat.reduceLeDiff, Nat.reduceLT, Nat.reduceBEq, PV.scal, PV.scalL, SV.scal, SV.scalL, Ob.scal, PV.isCell, pure', resO]
        refine hR' _ _ _ (by intro h; cases h) ?_
        rcases runG_s hr e2 with ⟨a, xs', zs, hzl, rfl, hc3⟩ | ⟨a, zs, rfl, hc3⟩
        · have hzl2 : xs'.length = l.length := hzl.trans (ansK_len _ _)
          have e3' : Γ g [.ar 1000002, .p (.int .i64 ((opens (endL m x l (ansK l.length v))).length : Int)), .bx 1000000 0, .bx 1000001 0] [.box [.p u1], .box [.ar 1000003], .arr 1 (bools (ansK l.length v)), .arr 1 ys] = some (.tp [], [.box [.p a], .box [.ar 2000000], .arr 1 xs', .box []], [.arr 1 zs]) := hc3
          simp only [ht, h_toldG, c_toldG, h_opened, c_l2Open, hx0, g2, g3, hm1, hsm, g4, ints_len, bools_len, isI_ints, ofI_ints, isBo_bools, ofBo_bools, e3', hw, hzl2, callG, likeG, gone, goneN, goneAt, updG, nmG, killE_mk, killO_mk, killT, killL, ↓SP, SQ, Gam.add, stepM, callC, argC, lendO, nmBy, nmC, likeL, likeB, plainOb, offs, exL, X, F, trP, trO, stepD, stepW, newA, SV.tr, SV.trL, fz, allP, Ob.tr, loadA, cellsA, SV.cells, binA, binI, eqOut, isSl, isPt, natOf, callee, snap, SV.refsL, SV.refs, thaw, fzAll, loA, hiA, elemOf, partsA, buildA, putCells, ↓reduceIte, reduceCtorEq, okCell, Nat.reduceAdd, Nat.reduceEqDiff, Nat.reduceSub, Nat.reduceMul, Nat.reduceLeDiff, Nat.reduceLT, Nat.reduceBEq, PV.scal, PV.scalL, SV.scal, SV.scalL, Ob.scal, PV.isCell, pure', resO]
          exact hN (v + 1, a, some zs, _, _, _, _, _, _, _, _, _) _ _ ⟨by simp only; omega, by simp only; exact e2⟩ (by simp only; omega) rfl rfl
        · skip
          have e3' : Γ g [.ar 1000002, .p (.int .i64 ((opens (endL m x l (ansK l.length v))).length : Int)), .bx 1000000 0, .bx 1000001 0] [.box [.p u1], .box [.ar 1000003], .arr 1 (bools (ansK l.length v)), .arr 1 ys] = some (.tp [], [.box [.p a], .box [.ar 2000000], .box [], .box []], [.arr 1 zs]) := hc3
          simp only [ht, h_toldG, c_toldG, h_opened, c_l2Open, hx0, g2, g3, hm1, hsm, g4, ints_len, bools_len, isI_ints, ofI_ints, isBo_bools, ofBo_bools, e3', hw, callG, likeG, gone, goneN, goneAt, updG, nmG, killE_mk, killO_mk, killT, killL, ↓SP, SQ, Gam.add, stepM, callC, argC, lendO, nmBy, nmC, likeL, likeB, plainOb, offs, exL, X, F, trP, trO, stepD, stepW, newA, SV.tr, SV.trL, fz, allP, Ob.tr, loadA, cellsA, SV.cells, binA, binI, eqOut, isSl, isPt, natOf, callee, snap, SV.refsL, SV.refs, thaw, fzAll, loA, hiA, elemOf, partsA, buildA, putCells, ↓reduceIte, reduceCtorEq, okCell, Nat.reduceAdd, Nat.reduceEqDiff, Nat.reduceSub, Nat.reduceMul, Nat.reduceLeDiff, Nat.reduceLT, Nat.reduceBEq, PV.scal, PV.scalL, SV.scal, SV.scalL, Ob.scal, PV.isCell, pure', resO]
          exact hN (v + 1, a, some zs, _, _, _, _, _, _, _, _, _) _ _ ⟨by simp only; omega, by simp only; exact e2⟩ (by simp only; omega) rfl rfl
  · have he : v = 2 ^ l.length := by omega
    have h1 : ¬ (v : Int) < ((2 ^ l.length : Nat) : Int) := by omega
    simp only [h1, ↓SP, SQ, Gam.add, stepM, callC, argC, lendO, nmBy, nmC, likeL, likeB, plainOb, offs, exL, X, F, trP, trO, stepD, stepW, newA, SV.tr, SV.trL, fz, allP, Ob.tr, loadA, cellsA, SV.cells, binA, binI, eqOut, isSl, isPt, natOf, callee, snap, SV.refsL, SV.refs, thaw, fzAll, loA, hiA, elemOf, partsA, buildA, putCells, ↓reduceIte, reduceCtorEq, okCell, Nat.reduceAdd, Nat.reduceEqDiff, Nat.reduceSub, Nat.reduceMul, Nat.reduceLeDiff, Nat.reduceLT, Nat.reduceBEq, PV.scal, PV.scalL, SV.scal, SV.scalL, Ob.scal, PV.isCell, pure', resO]
    refine hR _ _ _ (by intro h; cases h) ?_
    simp only [↓SP, SQ, Gam.add, stepM, callC, argC, lendO, nmBy, nmC, likeL, likeB, plainOb, offs, exL, X, F, trP, trO, stepD, stepW, newA, SV.tr, SV.trL, fz, allP, Ob.tr, loadA, cellsA, SV.cells, binA, binI, eqOut, isSl, isPt, natOf, callee, snap, SV.refsL, SV.refs, thaw, fzAll, loA, hiA, elemOf, partsA, buildA, putCells, ↓reduceIte, reduceCtorEq, okCell, Nat.reduceAdd, Nat.reduceEqDiff, Nat.reduceSub, Nat.reduceMul, Nat.reduceLeDiff, Nat.reduceLT, Nat.reduceBEq, PV.scal, PV.scalL, SV.scal, SV.scalL, Ob.scal, PV.isCell, pure', resO]
    subst he
    rw [hrun] at hr
    simp only [Option.some.injEq] at hr
    subst hr
    rcases hfin with ⟨a, he, rfl, rfl⟩ | ⟨a, ys, he, rfl, rfl⟩
    · simp only [Prod.mk.injEq] at he
      obtain ⟨rfl, rfl⟩ := he
      simp only [bxG, arG]
      refine finG_gen [] trivial (by simp [retA, rvA, mkE_cons, mk_nil, mkO_cons, mkO_nil, loadA, SV.tr, SV.trL, nmF, rn_nil, rn_cons1, rn_cons2, plainOb, SV.refsL, SV.refs, Ob.refs, X, F, List.range_succ, mkO, setO_mk]; rfl) ?_ ?_ ?_ ?_ ?_ ?_ <;> simp [goneAt, gone, Ob.tr, retA, rvA, mkE_cons, mk_nil, mkO_cons, mkO_nil, loadA, SV.tr, SV.trL, nmF, rn_nil, rn_cons1, rn_cons2, plainOb, SV.refsL, SV.refs, Ob.refs, X, F, List.range_succ, mkO, setO_mk]
    · simp only [Prod.mk.injEq] at he
      obtain ⟨rfl, rfl⟩ := he
      simp only [bxG, arG]
      refine finG_gen [40] trivial (by simp [retA, rvA, mkE_cons, mk_nil, mkO_cons, mkO_nil, loadA, SV.tr, SV.trL, nmF, rn_nil, rn_cons1, rn_cons2, plainOb, SV.refsL, SV.refs, Ob.refs, X, F, List.range_succ, mkO, setO_mk]; rfl) ?_ ?_ ?_ ?_ ?_ ?_ <;> simp [goneAt, gone, Ob.tr, retA, rvA, mkE_cons, mk_nil, mkO_cons, mkO_nil, loadA, SV.tr, SV.trL, nmF, rn_nil, rn_cons1, rn_cons2, plainOb, SV.refsL, SV.refs, Ob.refs, X, F, List.range_succ, mkO, setO_mk]
/-- The most numbers that stand open behind the first k lists of answers, and the first list of those. -/
def mkN (x : List Int) (m : Int) (l : List Int) : Nat → Int × Nat
  | 0 => (-1, 0)
  | k + 1 => if (mkN x m l k).1 < (leftN x m l k : Int) then ((leftN x m l k : Int), k) else mkN x m l k
theorem runG_mk {Γ0 : Gam} {g : FuncId} (h : Γ0 g = c_mk1) (x : List Int) (m : Int) (l : List Int) : ∀ k, runG Γ0 g (fK x m l) (k + 1) (.int .i64 (-1)) = some (.int .i64 (mkN x m l (k + 1)).1, some (bools (ansK l.length ((mkN x m l (k + 1)).2 : Int))))
  | 0 => by
    have : (-1 : Int) < (leftN x m l (0 : Nat) : Int) := by omega
    simp only [runG, h, fK, c_mk1, mkN, this, if_true]
  | k + 1 => by
    have hs : mkN x m l (k + 1 + 1) = if (mkN x m l (k + 1)).1 < (leftN x m l ((k + 1 : Nat) : Int) : Int) then ((leftN x m l ((k + 1 : Nat) : Int) : Int), k + 1) else mkN x m l (k + 1) := rfl
    rw [runG, runG_mk h x m l k, hs]
    generalize mkN x m l (k + 1) = q
    simp only [h, fK]
    by_cases h1 : q.1 < (leftN x m l ((k + 1 : Nat) : Int) : Int)
    · simp only [c_mk1, h1, if_true]
    · simp only [c_mk1, h1, if_false, bools_len, if_true]
def mkR (x : List Int) (m : Int) (l : List Int) : Option (Int × Nat) := if isL x m l = true then some (mkN x m l (2 ^ l.length)) else none
def a_MostKept (f_areListed : FuncId) (f_mk1 : FuncId) (f_listsG : FuncId) : AFn := ⟨2, 
  .seq (.reg [⟨some 2, none, .w (.box 2 (.t 0))⟩,
    ⟨some 4, none, .d (.mv (.c (.int .i64 0)))⟩,
    ⟨some 5, none, .d (.mv (.c (.nilsl)))⟩,
    ⟨some 6, none, .d (.mv (.c (.bool false)))⟩])
  (.seq (.seq (.reg [⟨some 9, none, .d (.load true 2 (.t 2))⟩,
    ⟨some 10, none, .d (.mv (.t 1))⟩,
    ⟨some 11, none, .d (.call (.f f_areListed) [(.t 9), (.t 10)])⟩,
    ⟨some 12, none, .d (.not (.t 11))⟩])
  (.cond (.t 12) (.seq (.reg [⟨some 4, none, .d (.mv (.c (.int .i64 0)))⟩,
     ⟨some 5, none, .d (.mv (.c (.nilsl)))⟩,
     ⟨some 6, none, .d (.mv (.c (.bool false)))⟩])
   (.ret)) (.skip)))
  (.seq (.reg [⟨some 7, none, .w (.alloc [.int .i64 0])⟩,
    ⟨some 8, none, .w (.alloc [.nilsl])⟩,
    ⟨none, none, .w (.store 1 (.t 7) (.c (.int .i64 (-1))))⟩,
    ⟨none, none, .w (.store 1 (.t 8) (.c (.nilsl)))⟩])
  (.seq (.reg [⟨some 13, none, .d (.load true 2 (.t 2))⟩,
    ⟨some 14, none, .d (.mv (.t 1))⟩,
    ⟨some 15, none, .d (.mkfn f_mk1 [] [(.t 7), (.t 8)])⟩,
    ⟨some 16, none, .w (.callL (.f f_listsG) [(.t 13), (.t 14), (.t 15)] [7, 8] 101 false)⟩])
  (.seq (.dreg [] [([], ⟨some 17, none, .d (.load false 1 (.t 7))⟩),
    ([], ⟨some 18, none, .d (.load false 1 (.t 8))⟩),
    ([], ⟨some 4, none, .d (.mv (.t 17))⟩)] [⟨some 5, none, .d (.mv (.t 18))⟩,
    ⟨some 6, none, .d (.mv (.c (.bool true)))⟩])
  (.ret))))), [.tmp 4, .tmp 5, .tmp 6]⟩
def n_MostKept : Nat → Option Ann := fun d => if d = 16 then some ⟨[7, 8], 101, false⟩ else none
abbrev k_MostKept : List Nat := [0, 1, 2, 4, 5, 6, 7, 8, 12]
abbrev o_MostKept : List Nat := [2, 7, 8, 16]
def mkO' (l : List Int) : Option (Int × Nat) → SV × List Ob
  | some v => (.tp [.p (.int .i64 v.1), .ar 2000000, .p (.bool true)], [.arr 1 (bools (ansK l.length (v.2 : Int)))])
  | none => (.tp [.p (.int .i64 0), .p .nilsl, .p (.bool false)], [])
def c_MostKept : Con := pure' fun
  | [.p (.agg [.sl 1 xs, .int .i64 m]), .p (.sl 1 ls)] => if isI xs = true ∧ isI ls = true ∧ xs.length ≤ 1100000 ∧ ls.length ≤ 1100000 then some (mkO' (ofI ls) (mkR (ofI xs) m (ofI ls))) else none
  | _ => none
theorem s_MostKept {P : Program} (hm : P.follows .mixedOrders = true) {Γ : Gam} (hΓ : GS P Γ) {n : FuncId} {f_areListed : FuncId} {f_mk1 : FuncId} {f_listsG : FuncId} (is : Is P n (a_MostKept f_areListed f_mk1 f_listsG)) (h_areListed : Γ f_areListed = c_areListed) {Γ0 : Gam} (h_listsG : Γ f_listsG = c_listsG Γ0) (h_mk1 : Γ0 f_mk1 = c_mk1) : Says P n c_MostKept := by
  refine Says.pure fun args r fs h => ?_
  split at h
  case h_2 => cases h
  rename_i xs m ls
  split at h
  case isFalse => cases h
  rename_i hc
  obtain ⟨hx, hl, hx0, hl0⟩ := hc
  obtain ⟨x, rfl⟩ := isI_out hx
  obtain ⟨l, rfl⟩ := isI_out hl
  simp only [ofI_ints, ints_len, Option.some.injEq] at h hx0 hl0
  cases hL : isL x m l with
  | false =>
    simp only [mkR, hL, Bool.false_eq_true, if_false, mkO', Prod.mk.injEq] at h
    obtain ⟨rfl, rfl⟩ := h
    refine is.go hm hΓ k_MostKept o_MostKept (by simp [a_MostKept]) ?_
    simp only [a_MostKept, h_areListed, c_areListed, hL, hx0, hl0, ints_len, ofI_ints, isI_ints, Bool.false_eq_true, List.zipIdx_cons, List.zipIdx_nil, ↓SP, SQ, Gam.add, stepM, callC, argC, lendO, nmBy, nmC, likeL, likeB, plainOb, offs, exL, X, F, trP, trO, stepD, stepW, newA, SV.tr, SV.trL, fz, allP, Ob.tr, loadA, cellsA, SV.cells, binA, binI, eqOut, isSl, isPt, natOf, callee, snap, SV.refsL, SV.refs, thaw, fzAll, loA, hiA, elemOf, partsA, buildA, putCells, ↓reduceIte, reduceCtorEq, okCell, Nat.reduceAdd, Nat.reduceEqDiff, Nat.reduceSub, Nat.reduceMul, Nat.reduceLeDiff, Nat.reduceLT, Nat.reduceBEq, PV.scal, PV.scalL, SV.scal, SV.scalL, Ob.scal, PV.isCell, pure', resO]
    refine finA_gen [] trivial (by simp [retA, rvA, mkE_cons, mk_nil, mkO_cons, mkO_nil, loadA, SV.tr, SV.trL, nmF, rn_nil, rn_cons1, rn_cons2, plainOb, SV.refsL, SV.refs, Ob.refs, X, F, List.range_succ, mkO, setO_mk]; rfl) ?_ ?_ ?_ ?_ ?_ ?_ ?_ <;> simp [retA, rvA, mkE_cons, mk_nil, mkO_cons, mkO_nil, loadA, SV.tr, SV.trL, nmF, rn_nil, rn_cons1, rn_cons2, plainOb, SV.refsL, SV.refs, Ob.refs, X, F, List.range_succ, mkO, setO_mk]
  | true =>
    obtain ⟨h1, h2, h3⟩ := isL_fit hL
    have hp : 2 ^ l.length = 2 ^ l.length - 1 + 1 := by have := Nat.pow_pos (n := l.length) (show 0 < 2 by omega); omega
    have hrun := runG_mk h_mk1 x m l (2 ^ l.length - 1)
    rw [← hp] at hrun
    simp only [mkR, hL, if_true, mkO', Prod.mk.injEq] at h
    obtain ⟨rfl, rfl⟩ := h
    refine is.go hm hΓ k_MostKept o_MostKept (by simp [a_MostKept]) ?_
    simp only [a_MostKept, h_areListed, c_areListed, hL, hx0, hl0, h1, h2, h3, ints_len, ofI_ints, isI_ints, h_listsG, c_listsG, hrun, callG, likeG, gone, goneN, goneAt, updG, nmG, killE_mk, killO_mk, killT, killL, List.zipIdx_cons, List.zipIdx_nil, ↓SP, SQ, Gam.add, stepM, callC, argC, lendO, nmBy, nmC, likeL, likeB, plainOb, offs, exL, X, F, trP, trO, stepD, stepW, newA, SV.tr, SV.trL, fz, allP, Ob.tr, loadA, cellsA, SV.cells, binA, binI, eqOut, isSl, isPt, natOf, callee, snap, SV.refsL, SV.refs, thaw, fzAll, loA, hiA, elemOf, partsA, buildA, putCells, ↓reduceIte, reduceCtorEq, okCell, Nat.reduceAdd, Nat.reduceEqDiff, Nat.reduceSub, Nat.reduceMul, Nat.reduceLeDiff, Nat.reduceLT, Nat.reduceBEq, PV.scal, PV.scalL, SV.scal, SV.scalL, Ob.scal, PV.isCell, pure', resO]
    refine finA_gen [16] trivial (by simp [retA, rvA, mkE_cons, mk_nil, mkO_cons, mkO_nil, loadA, SV.tr, SV.trL, nmF, rn_nil, rn_cons1, rn_cons2, plainOb, SV.refsL, SV.refs, Ob.refs, X, F, List.range_succ, mkO, setO_mk]; rfl) ?_ ?_ ?_ ?_ ?_ ?_ ?_ <;> simp [retA, rvA, mkE_cons, mk_nil, mkO_cons, mkO_nil, loadA, SV.tr, SV.trL, nmF, rn_nil, rn_cons1, rn_cons2, plainOb, SV.refsL, SV.refs, Ob.refs, X, F, List.range_succ, mkO, setO_mk]
def a_s_MostKept (f_l8Good : FuncId) (f_l8Left : FuncId) (f_l8Answers : FuncId) : AFn := ⟨2, 
  .seq (.reg [⟨some 2, none, .w (.box 2 (.t 0))⟩,
    ⟨some 4, none, .d (.mv (.c (.int .i64 0)))⟩,
    ⟨some 5, none, .d (.mv (.c (.nilsl)))⟩,
    ⟨some 6, none, .d (.mv (.c (.bool false)))⟩])
  (.seq (.seq (.reg [⟨some 11, none, .d (.load true 2 (.t 2))⟩,
    ⟨some 12, none, .d (.mv (.t 1))⟩,
    ⟨some 13, none, .d (.call (.f f_l8Good) [(.t 11), (.t 12)])⟩,
    ⟨some 14, none, .d (.not (.t 13))⟩])
  (.cond (.t 14) (.seq (.reg [⟨some 15, none, .w (.bslice 1 [] [])⟩,
     ⟨some 4, none, .d (.mv (.c (.int .i64 0)))⟩,
     ⟨some 5, none, .d (.mv (.t 15))⟩,
     ⟨some 6, none, .d (.mv (.c (.bool false)))⟩])
   (.ret)) (.skip)))
  (.seq (.reg [⟨some 7, none, .d (.mv (.c (.int .i64 0)))⟩,
    ⟨some 8, none, .d (.mv (.c (.int .i64 (-1))))⟩])
  (.seq (.seq (.reg [⟨some 9, none, .d (.mv (.c (.int .i64 0)))⟩])
  (.block 0 (.loop (.seq (.seq (.reg [⟨some 16, none, .d (.mv (.t 9))⟩,
      ⟨some 17, none, .d (.mv (.t 1))⟩,
      ⟨some 18, none, .d (.len (.t 17))⟩,
      ⟨some 19, none, .d (.bin .arith .shl (.c (.int .i64 1)) (.t 18))⟩,
      ⟨some 20, none, .d (.bin .arith .lss (.t 16) (.t 19))⟩])
    (.cond (.t 20) (.skip) (.exit 0)))
    (.seq (.block 1 (.seq (.reg [⟨some 23, none, .d (.load true 2 (.t 2))⟩,
       ⟨some 24, none, .d (.mv (.t 1))⟩,
       ⟨some 25, none, .d (.mv (.t 9))⟩,
       ⟨some 26, none, .d (.call (.f f_l8Left) [(.t 23), (.t 24), (.t 25)])⟩,
       ⟨some 10, none, .d (.mv (.t 26))⟩])
     (.seq (.reg [⟨some 27, none, .d (.mv (.t 10))⟩,
       ⟨some 28, none, .d (.mv (.t 8))⟩,
       ⟨some 29, none, .d (.bin .arith .gtr (.t 27) (.t 28))⟩])
     (.cond (.t 29) (.seq (.reg [⟨some 30, none, .d (.mv (.t 10))⟩,
        ⟨some 8, none, .d (.mv (.t 30))⟩])
      (.reg [⟨some 31, none, .d (.mv (.t 9))⟩,
        ⟨some 7, none, .d (.mv (.t 31))⟩])) (.skip)))))
    (.reg [⟨some 21, none, .d (.mv (.t 9))⟩,
      ⟨some 22, none, .d (.bin .arith .add (.t 21) (.c (.int .i64 1)))⟩,
      ⟨some 9, none, .d (.mv (.t 22))⟩]))))))
  (.seq (.reg [⟨some 32, none, .d (.mv (.t 8))⟩,
    ⟨some 33, none, .d (.mv (.t 7))⟩,
    ⟨some 34, none, .d (.mv (.t 1))⟩,
    ⟨some 35, none, .d (.len (.t 34))⟩,
    ⟨some 36, none, .d (.call (.f f_l8Answers) [(.t 33), (.t 35)])⟩,
    ⟨some 4, none, .d (.mv (.t 32))⟩,
    ⟨some 5, none, .d (.mv (.t 36))⟩,
    ⟨some 6, none, .d (.mv (.c (.bool true)))⟩])
  (.ret))))), [.tmp 4, .tmp 5, .tmp 6]⟩
def n_s_MostKept : Nat → Option Ann := fun _ => none
abbrev k_s_MostKept : List Nat := [0, 1, 2, 4, 5, 6, 7, 8, 9, 10, 14, 20, 29]
abbrev o_s_MostKept : List Nat := [2, 15]
def mkS (l : List Int) : Option (Int × Nat) → SV × List Ob
  | some v => (.tp [.p (.int .i64 v.1), .p (.sl 1 (bools (ansK l.length (v.2 : Int)))), .p (.bool true)], [])
  | none => (.tp [.p (.int .i64 0), .ar 2000000, .p (.bool false)], [.arr 1 []])
def c_s_MostKept : Con := pure' fun
  | [.p (.agg [.sl 1 xs, .int .i64 m]), .p (.sl 1 ls)] => if isI xs = true ∧ isI ls = true ∧ xs.length ≤ 1100000 ∧ ls.length ≤ 1100000 then some (mkS (ofI ls) (mkR (ofI xs) m (ofI ls))) else none
  | _ => none
theorem s_s_MostKept {P : Program} (hm : P.follows .mixedOrders = true) {Γ : Gam} (hΓ : GS P Γ) {n : FuncId} {f_l8Good : FuncId} {f_l8Left : FuncId} {f_l8Answers : FuncId} (is : Is P n (a_s_MostKept f_l8Good f_l8Left f_l8Answers)) (h_l8Good : Γ f_l8Good = c_areListed) (h_l8Left : Γ f_l8Left = c_l8Left) (h_l8Answers : Γ f_l8Answers = c_l8Answers)  : Says P n c_s_MostKept := by
  refine Says.pure fun args r fs h => ?_
  split at h
  case h_2 => cases h
  rename_i xs m ls
  split at h
  case isFalse => cases h
  rename_i hc
  obtain ⟨hx, hl, hx0, hl0⟩ := hc
  obtain ⟨x, rfl⟩ := isI_out hx
  obtain ⟨l, rfl⟩ := isI_out hl
  simp only [ofI_ints, ints_len, Option.some.injEq] at h hx0 hl0
  cases hL : isL x m l with
  | false =>
    simp only [mkR, hL, Bool.false_eq_true, if_false, mkS, Prod.mk.injEq] at h
    obtain ⟨rfl, rfl⟩ := h
    refine is.go hm hΓ k_s_MostKept o_s_MostKept (by simp [a_s_MostKept]) ?_
    simp only [a_s_MostKept, h_l8Good, c_areListed, h_l8Left, c_l8Left, h_l8Answers, c_l8Answers, hL, hx0, hl0, ints_len, ofI_ints, isI_ints, Bool.false_eq_true, List.zipIdx_cons, List.zipIdx_nil, ↓SP, SQ, Gam.add, stepM, callC, argC, lendO, nmBy, nmC, likeL, likeB, plainOb, offs, exL, X, F, trP, trO, stepD, stepW, newA, SV.tr, SV.trL, fz, allP, Ob.tr, loadA, cellsA, SV.cells, binA, binI, eqOut, isSl, isPt, natOf, callee, snap, SV.refsL, SV.refs, thaw, fzAll, loA, hiA, elemOf, partsA, buildA, putCells, ↓reduceIte, reduceCtorEq, okCell, Nat.reduceAdd, Nat.reduceEqDiff, Nat.reduceSub, Nat.reduceMul, Nat.reduceLeDiff, Nat.reduceLT, Nat.reduceBEq, PV.scal, PV.scalL, SV.scal, SV.scalL, Ob.scal, PV.isCell, pure', resO]
    refine finA_gen [15] trivial (by simp [retA, rvA, mkE_cons, mk_nil, mkO_cons, mkO_nil, loadA, SV.tr, SV.trL, nmF, rn_nil, rn_cons1, rn_cons2, plainOb, SV.refsL, SV.refs, Ob.refs, X, F, List.range_succ, mkO, setO_mk]; rfl) ?_ ?_ ?_ ?_ ?_ ?_ ?_ <;> simp [retA, rvA, mkE_cons, mk_nil, mkO_cons, mkO_nil, loadA, SV.tr, SV.trL, nmF, rn_nil, rn_cons1, rn_cons2, plainOb, SV.refsL, SV.refs, Ob.refs, X, F, List.range_succ, mkO, setO_mk]
  | true =>
    obtain ⟨h1, h2, h3⟩ := isL_fit hL
    have hp8 := pow8 h1
    have hsh := shl8 h1
    have hn0 : ¬ (l.length : Int) < 0 := by omega
    have g20 : (l.length : Int) ≤ 20 := by omega
    simp only [mkR, hL, if_true, mkS, Prod.mk.injEq] at h
    obtain ⟨rfl, rfl⟩ := h
    refine is.go hm hΓ k_s_MostKept o_s_MostKept (by simp [a_s_MostKept]) ?_
    simp only [a_s_MostKept, h_l8Good, c_areListed, h_l8Left, c_l8Left, h_l8Answers, c_l8Answers, hL, hx0, hl0, List.zipIdx_cons, List.zipIdx_nil, ↓SP, SQ, Gam.add, stepM, callC, argC, lendO, nmBy, nmC, likeL, likeB, plainOb, offs, exL, X, F, trP, trO, stepD, stepW, newA, SV.tr, SV.trL, fz, allP, Ob.tr, loadA, cellsA, SV.cells, binA, binI, eqOut, isSl, isPt, natOf, callee, snap, SV.refsL, SV.refs, thaw, fzAll, loA, hiA, elemOf, partsA, buildA, putCells, ↓reduceIte, reduceCtorEq, okCell, Nat.reduceAdd, Nat.reduceEqDiff, Nat.reduceSub, Nat.reduceMul, Nat.reduceLeDiff, Nat.reduceLT, Nat.reduceBEq, PV.scal, PV.scalL, SV.scal, SV.scalL, Ob.scal, PV.isCell, pure', resO]
    refine loop_at (fun s : Nat × SV × SV × SV => mkEnv [(0, .p (.agg [.sl 1 (ints x), .int .i64 m])), (1, .p (.sl 1 (ints l))), (2, .bx 2 0), (4, si 0), (5, .p .nilsl), (6, sb false), (7, si ((mkN x m l s.1).2 : Int)), (8, si (mkN x m l s.1).1), (9, si s.1), (10, s.2.1), (14, sb false), (20, s.2.2.1), (29, s.2.2.2)]) (fun s => mkO [(2, some (.box [.p (.sl 1 (ints x)), si m])), (15, none)]) (fun s => s.1 ≤ 2 ^ l.length) (fun s => 2 ^ l.length - s.1) (0, .junk, .junk, .junk) (by simp) rfl rfl ?_
    rintro ⟨v, c1, c2, c3⟩ hv R hR hN
    simp only at hv
    by_cases hlt : v < 2 ^ l.length
    · have h1' : (v : Int) < ((2 ^ l.length : Nat) : Int) := Int.ofNat_lt.2 hlt
      have hw := wrap_one (i := v) (by omega)
      by_cases ha : (mkN x m l v).1 < (leftN x m l v : Int)
      · have ha' : (leftN x m l v : Int) > (mkN x m l v).1 := ha
        have he : mkN x m l (v + 1) = ((leftN x m l v : Int), v) := by simp only [mkN, ha, if_true]
        simp only [hsh, hn0, hx0, h1, h2, h3, h1', hw, ha, ha', g20, h_l8Left, c_l8Left, ↓SP, SQ, Gam.add, stepM, callC, argC, lendO, nmBy, nmC, likeL, likeB, plainOb, offs, exL, X, F, trP, trO, stepD, stepW, newA, SV.tr, SV.trL, fz, allP, Ob.tr, loadA, cellsA, SV.cells, binA, binI, eqOut, isSl, isPt, natOf, callee, snap, SV.refsL, SV.refs, thaw, fzAll, loA, hiA, elemOf, partsA, buildA, putCells, ↓reduceIte, reduceCtorEq, okCell, Nat.reduceAdd, Nat.reduceEqDiff, Nat.reduceSub, Nat.reduceMul, Nat.reduceLeDiff, Nat.reduceLT, Nat.reduceBEq, PV.scal, PV.scalL, SV.scal, SV.scalL, Ob.scal, PV.isCell, pure', resO]
        exact hN (v + 1, _, _, _) _ _ (by simp only; omega) (by simp only; omega) (by simp only [he]; rfl) rfl
      · have ha' : ¬ (leftN x m l v : Int) > (mkN x m l v).1 := ha
        have he : mkN x m l (v + 1) = mkN x m l v := by simp only [mkN, ha, if_false]
        simp only [hsh, hn0, hx0, h1, h2, h3, h1', hw, ha, ha', h_l8Left, c_l8Left, ↓SP, SQ, Gam.add, stepM, callC, argC, lendO, nmBy, nmC, likeL, likeB, plainOb, offs, exL, X, F, trP, trO, stepD, stepW, newA, SV.tr, SV.trL, fz, allP, Ob.tr, loadA, cellsA, SV.cells, binA, binI, eqOut, isSl, isPt, natOf, callee, snap, SV.refsL, SV.refs, thaw, fzAll, loA, hiA, elemOf, partsA, buildA, putCells, ↓reduceIte, reduceCtorEq, okCell, Nat.reduceAdd, Nat.reduceEqDiff, Nat.reduceSub, Nat.reduceMul, Nat.reduceLeDiff, Nat.reduceLT, Nat.reduceBEq, PV.scal, PV.scalL, SV.scal, SV.scalL, Ob.scal, PV.isCell, pure', resO]
        exact hN (v + 1, _, _, _) _ _ (by simp only; omega) (by simp only; omega) (by simp only [he]; rfl) rfl
    · have he : v = 2 ^ l.length := by omega
      have h1' : ¬ (v : Int) < ((2 ^ l.length : Nat) : Int) := by omega
      subst he
      simp only [hsh, hn0, h1', ↓SP, SQ, Gam.add, stepM, callC, argC, lendO, nmBy, nmC, likeL, likeB, plainOb, offs, exL, X, F, trP, trO, stepD, stepW, newA, SV.tr, SV.trL, fz, allP, Ob.tr, loadA, cellsA, SV.cells, binA, binI, eqOut, isSl, isPt, natOf, callee, snap, SV.refsL, SV.refs, thaw, fzAll, loA, hiA, elemOf, partsA, buildA, putCells, ↓reduceIte, reduceCtorEq, okCell, Nat.reduceAdd, Nat.reduceEqDiff, Nat.reduceSub, Nat.reduceMul, Nat.reduceLeDiff, Nat.reduceLT, Nat.reduceBEq, PV.scal, PV.scalL, SV.scal, SV.scalL, Ob.scal, PV.isCell, pure', resO]
      refine hR _ _ _ (by intro h; cases h) ?_
      simp only [g20, Int.natCast_nonneg, h_l8Answers, c_l8Answers, ↓SP, SQ, Gam.add, stepM, callC, argC, lendO, nmBy, nmC, likeL, likeB, plainOb, offs, exL, X, F, trP, trO, stepD, stepW, newA, SV.tr, SV.trL, fz, allP, Ob.tr, loadA, cellsA, SV.cells, binA, binI, eqOut, isSl, isPt, natOf, callee, snap, SV.refsL, SV.refs, thaw, fzAll, loA, hiA, elemOf, partsA, buildA, putCells, ↓reduceIte, reduceCtorEq, okCell, Nat.reduceAdd, Nat.reduceEqDiff, Nat.reduceSub, Nat.reduceMul, Nat.reduceLeDiff, Nat.reduceLT, Nat.reduceBEq, PV.scal, PV.scalL, SV.scal, SV.scalL, Ob.scal, PV.isCell, pure', resO]
      refine finA_gen [] trivial (by simp [retA, rvA, mkE_cons, mk_nil, mkO_cons, mkO_nil, loadA, SV.tr, SV.trL, nmF, rn_nil, rn_cons1, rn_cons2, plainOb, SV.refsL, SV.refs, Ob.refs, X, F, List.range_succ, mkO, setO_mk]; rfl) ?_ ?_ ?_ ?_ ?_ ?_ ?_ <;> simp [retA, rvA, mkE_cons, mk_nil, mkO_cons, mkO_nil, loadA, SV.tr, SV.trL, nmF, rn_nil, rn_cons1, rn_cons2, plainOb, SV.refsL, SV.refs, Ob.refs, X, F, List.range_succ, mkO, setO_mk]
def a_x_MostKept (f_szState : FuncId) (f_toState : FuncId) (f_toIntS : FuncId) (f_s_MostKept : FuncId) (f_MostKept : FuncId) (f_eqBoolS : FuncId) (f_eqState : FuncId) (f_eqIntS : FuncId) (f_markState : FuncId) (f_markIntS : FuncId) (f_markBoolS : FuncId) (f_heldBoolS : FuncId) : AFn := ⟨2, 
  .seq (.reg [⟨some 2, none, .w (.box 2 (.t 0))⟩,
    ⟨some 4, none, .d (.mv (.c (.bool false)))⟩])
  (.seq (.seq (.reg [⟨some 20, none, .d (.mv (.t 1))⟩,
    ⟨some 21, none, .d (.len (.t 20))⟩,
    ⟨some 22, none, .d (.bin .arith .gtr (.t 21) (.c (.int .i64 1048576)))⟩])
  (.cond (.t 22) (.seq (.reg [⟨some 4, none, .d (.mv (.c (.bool true)))⟩])
   (.ret)) (.skip)))
  (.seq (.reg [⟨some 5, none, .d (.mv (.c (.int .i64 1048576)))⟩])
  (.seq (.reg [⟨some 23, none, .d (.load true 2 (.t 2))⟩,
    ⟨some 24, none, .d (.mv (.t 5))⟩,
    ⟨some 25, none, .d (.call (.f f_szState) [(.t 23), (.t 24)])⟩,
    ⟨some 5, none, .d (.mv (.t 25))⟩])
  (.seq (.seq (.reg [⟨some 26, none, .d (.mv (.t 5))⟩,
    ⟨some 27, none, .d (.bin .arith .lss (.t 26) (.c (.int .i64 0)))⟩])
  (.cond (.t 27) (.seq (.reg [⟨some 4, none, .d (.mv (.c (.bool true)))⟩])
   (.ret)) (.skip)))
  (.seq (.reg [⟨some 29, none, .d (.load true 2 (.t 2))⟩,
    ⟨some 30, none, .d (.call (.f f_toState) [(.t 29)])⟩,
    ⟨some 31, none, .d (.mv (.t 1))⟩,
    ⟨some 32, none, .d (.call (.f f_toIntS) [(.t 31)])⟩,
    ⟨some 33, none, .d (.call (.f f_s_MostKept) [(.t 30), (.t 32)])⟩,
    ⟨some 28, none, .d (.mv (.t 33))⟩,
    ⟨some 34, none, .d (.extract (.t 28) 0)⟩,
    ⟨some 35, none, .d (.extract (.t 28) 1)⟩,
    ⟨some 36, none, .d (.extract (.t 28) 2)⟩,
    ⟨some 6, none, .d (.mv (.t 34))⟩,
    ⟨some 7, none, .d (.mv (.t 35))⟩,
    ⟨some 8, none, .d (.mv (.t 36))⟩])
  (.seq (.reg [⟨some 37, none, .d (.load true 2 (.t 2))⟩,
    ⟨some 38, none, .w (.callL (.f f_toState) [(.t 37)] [] 1 false)⟩,
    ⟨some 9, none, .w (.alloc [.nilsl, .int .i64 0])⟩,
    ⟨none, none, .w (.store 2 (.t 9) (.t 38))⟩])
  (.seq (.reg [⟨some 39, none, .d (.mv (.t 1))⟩,
    ⟨some 40, none, .w (.callL (.f f_toIntS) [(.t 39)] [] 1 false)⟩,
    ⟨some 10, none, .d (.mv (.t 40))⟩])
  (.seq (.reg [⟨some 42, none, .d (.load true 2 (.t 9))⟩,
    ⟨some 43, none, .d (.mv (.t 10))⟩,
    ⟨some 44, none, .w (.callL (.f f_MostKept) [(.t 42), (.t 43)] [] 1 false)⟩,
    ⟨some 41, none, .d (.mv (.t 44))⟩,
    ⟨some 45, none, .d (.extract (.t 41) 0)⟩,
    ⟨some 46, none, .d (.extract (.t 41) 1)⟩,
    ⟨some 47, none, .d (.extract (.t 41) 2)⟩,
    ⟨some 11, none, .d (.mv (.t 45))⟩,
    ⟨some 12, none, .d (.mv (.t 46))⟩,
    ⟨some 13, none, .d (.mv (.t 47))⟩])
  (.seq (.seq (.reg [⟨some 48, none, .d (.mv (.t 11))⟩,
    ⟨some 49, none, .d (.mv (.t 6))⟩,
    ⟨some 50, none, .d (.bin .arith .neq (.t 48) (.t 49))⟩,
    ⟨some 51, none, .d (.mv (.t 50))⟩,
    ⟨some 52, some (51, false), .d (.mv (.t 12))⟩,
    ⟨some 53, some (51, false), .d (.mv (.t 7))⟩,
    ⟨some 54, some (51, false), .d (.call (.f f_eqBoolS) [(.t 52), (.t 53)])⟩,
    ⟨some 55, some (51, false), .d (.not (.t 54))⟩,
    ⟨some 56, none, .d (.pick (.t 51) (.c (.bool true)) (.t 55))⟩,
    ⟨some 57, none, .d (.mv (.t 56))⟩,
    ⟨some 58, some (57, false), .d (.mv (.t 13))⟩,
    ⟨some 59, some (57, false), .d (.mv (.t 8))⟩,
    ⟨some 60, some (57, false), .d (.bin .bool .neq (.t 58) (.t 59))⟩,
    ⟨some 61, none, .d (.pick (.t 57) (.c (.bool true)) (.t 60))⟩])
  (.cond (.t 61) (.seq (.reg [⟨some 4, none, .d (.mv (.c (.bool false)))⟩])
   (.ret)) (.skip)))
  (.seq (.seq (.dreg [] [([], ⟨some 62, none, .d (.load true 2 (.t 9))⟩),
    ([], ⟨some 63, none, .d (.load true 2 (.t 2))⟩),
    ([], ⟨some 64, none, .d (.call (.f f_toState) [(.t 63)])⟩)] [⟨some 65, none, .d (.call (.f f_eqState) [(.t 62), (.t 64)])⟩,
    ⟨some 66, none, .d (.not (.t 65))⟩])
  (.cond (.t 66) (.seq (.reg [⟨some 4, none, .d (.mv (.c (.bool false)))⟩])
   (.ret)) (.skip)))
  (.seq (.seq (.reg [⟨some 67, none, .d (.mv (.t 10))⟩,
    ⟨some 68, none, .d (.mv (.t 1))⟩,
    ⟨some 69, none, .d (.call (.f f_toIntS) [(.t 68)])⟩,
    ⟨some 70, none, .d (.call (.f f_eqIntS) [(.t 67), (.t 69)])⟩,
    ⟨some 71, none, .d (.not (.t 70))⟩])
  (.cond (.t 71) (.seq (.reg [⟨some 4, none, .d (.mv (.c (.bool false)))⟩])
   (.ret)) (.skip)))
  (.seq (.reg [⟨some 14, none, .d (.mv (.c (.int .i64 1)))⟩])
  (.seq (.reg [⟨some 72, none, .d (.load true 2 (.t 9))⟩,
    ⟨some 73, none, .d (.mv (.t 14))⟩,
    ⟨some 74, none, .w (.callL (.f f_markState) [(.t 72), (.t 73)] [38] 0 false)⟩,
    ⟨some 14, none, .d (.mv (.t 74))⟩])
  (.seq (.reg [⟨some 75, none, .d (.mv (.t 10))⟩,
    ⟨some 76, none, .d (.mv (.t 14))⟩,
    ⟨some 77, none, .w (.callL (.f f_markIntS) [(.t 75), (.t 76)] [40] 0 false)⟩,
    ⟨some 14, none, .d (.mv (.t 77))⟩])
  (.seq (.seq (.reg [⟨some 78, none, .d (.mv (.t 14))⟩,
    ⟨some 79, none, .d (.bin .arith .lss (.t 78) (.c (.int .i64 0)))⟩,
    ⟨some 80, none, .d (.mv (.t 79))⟩,
    ⟨some 81, some (80, false), .d (.mv (.t 11))⟩,
    ⟨some 82, some (80, false), .d (.mv (.t 6))⟩,
    ⟨some 83, some (80, false), .d (.bin .arith .neq (.t 81) (.t 82))⟩,
    ⟨some 84, none, .d (.pick (.t 80) (.c (.bool true)) (.t 83))⟩,
    ⟨some 85, none, .d (.mv (.t 84))⟩,
    ⟨some 86, some (85, false), .d (.mv (.t 12))⟩,
    ⟨some 87, some (85, false), .d (.mv (.t 7))⟩,
    ⟨some 88, some (85, false), .d (.call (.f f_eqBoolS) [(.t 86), (.t 87)])⟩,
    ⟨some 89, some (85, false), .d (.not (.t 88))⟩,
    ⟨some 90, none, .d (.pick (.t 85) (.c (.bool true)) (.t 89))⟩,
    ⟨some 91, none, .d (.mv (.t 90))⟩,
    ⟨some 92, some (91, false), .d (.mv (.t 13))⟩,
    ⟨some 93, some (91, false), .d (.mv (.t 8))⟩,
    ⟨some 94, some (91, false), .d (.bin .bool .neq (.t 92) (.t 93))⟩,
    ⟨some 95, none, .d (.pick (.t 91) (.c (.bool true)) (.t 94))⟩])
  (.cond (.t 95) (.seq (.reg [⟨some 4, none, .d (.mv (.c (.bool false)))⟩])
   (.ret)) (.skip)))
  (.seq (.reg [⟨some 15, none, .d (.mv (.c (.int .i64 1)))⟩])
  (.seq (.reg [⟨some 96, none, .d (.mv (.t 12))⟩,
    ⟨some 97, none, .d (.mv (.t 15))⟩,
    ⟨some 98, none, .w (.callL (.f f_markBoolS) [(.t 96), (.t 97)] [44] 0 false)⟩,
    ⟨some 15, none, .d (.mv (.t 98))⟩])
  (.seq (.reg [⟨some 16, none, .d (.mv (.c (.int .i64 1)))⟩])
  (.seq (.reg [⟨some 99, none, .d (.mv (.t 12))⟩,
    ⟨some 100, none, .d (.mv (.t 16))⟩,
    ⟨some 101, none, .d (.call (.f f_heldBoolS) [(.t 99), (.t 100)])⟩,
    ⟨some 16, none, .d (.mv (.t 101))⟩])
  (.seq (.seq (.reg [⟨some 102, none, .d (.mv (.t 16))⟩,
    ⟨some 103, none, .d (.bin .arith .lss (.t 102) (.c (.int .i64 0)))⟩])
  (.cond (.t 103) (.seq (.reg [⟨some 4, none, .d (.mv (.c (.bool false)))⟩])
   (.ret)) (.skip)))
  (.seq (.seq (.reg [⟨some 104, none, .d (.mv (.t 16))⟩,
    ⟨some 105, none, .d (.mv (.t 15))⟩,
    ⟨some 106, none, .d (.bin .arith .neq (.t 104) (.t 105))⟩])
  (.cond (.t 106) (.seq (.reg [⟨some 4, none, .d (.mv (.c (.bool false)))⟩])
   (.ret)) (.skip)))
  (.seq (.reg [⟨some 108, none, .d (.load true 2 (.t 2))⟩,
    ⟨some 109, none, .d (.call (.f f_toState) [(.t 108)])⟩,
    ⟨some 110, none, .d (.mv (.t 1))⟩,
    ⟨some 111, none, .d (.call (.f f_toIntS) [(.t 110)])⟩,
    ⟨some 112, none, .d (.call (.f f_MostKept) [(.t 109), (.t 111)])⟩,
    ⟨some 107, none, .d (.mv (.t 112))⟩,
    ⟨some 113, none, .d (.extract (.t 107) 0)⟩,
    ⟨some 114, none, .d (.extract (.t 107) 1)⟩,
    ⟨some 115, none, .d (.extract (.t 107) 2)⟩,
    ⟨some 17, none, .d (.mv (.t 113))⟩,
    ⟨some 18, none, .d (.mv (.t 114))⟩,
    ⟨some 19, none, .d (.mv (.t 115))⟩])
  (.seq (.seq (.reg [⟨some 116, none, .d (.mv (.t 17))⟩,
    ⟨some 117, none, .d (.mv (.t 6))⟩,
    ⟨some 118, none, .d (.bin .arith .neq (.t 116) (.t 117))⟩,
    ⟨some 119, none, .d (.mv (.t 118))⟩,
    ⟨some 120, some (119, false), .d (.mv (.t 18))⟩,
    ⟨some 121, some (119, false), .d (.mv (.t 7))⟩,
    ⟨some 122, some (119, false), .d (.call (.f f_eqBoolS) [(.t 120), (.t 121)])⟩,
    ⟨some 123, some (119, false), .d (.not (.t 122))⟩,
    ⟨some 124, none, .d (.pick (.t 119) (.c (.bool true)) (.t 123))⟩,
    ⟨some 125, none, .d (.mv (.t 124))⟩,
    ⟨some 126, some (125, false), .d (.mv (.t 19))⟩,
    ⟨some 127, some (125, false), .d (.mv (.t 8))⟩,
    ⟨some 128, some (125, false), .d (.bin .bool .neq (.t 126) (.t 127))⟩,
    ⟨some 129, none, .d (.pick (.t 125) (.c (.bool true)) (.t 128))⟩])
  (.cond (.t 129) (.seq (.reg [⟨some 4, none, .d (.mv (.c (.bool false)))⟩])
   (.ret)) (.skip)))
  (.seq (.reg [⟨some 16, none, .d (.mv (.c (.int .i64 1)))⟩])
  (.seq (.reg [⟨some 130, none, .d (.mv (.t 12))⟩,
    ⟨some 131, none, .d (.mv (.t 16))⟩,
    ⟨some 132, none, .d (.call (.f f_heldBoolS) [(.t 130), (.t 131)])⟩,
    ⟨some 16, none, .d (.mv (.t 132))⟩])
  (.seq (.seq (.reg [⟨some 133, none, .d (.mv (.t 16))⟩,
    ⟨some 134, none, .d (.bin .arith .lss (.t 133) (.c (.int .i64 0)))⟩])
  (.cond (.t 134) (.seq (.reg [⟨some 4, none, .d (.mv (.c (.bool false)))⟩])
   (.ret)) (.skip)))
  (.seq (.seq (.reg [⟨some 135, none, .d (.mv (.t 16))⟩,
    ⟨some 136, none, .d (.mv (.t 15))⟩,
    ⟨some 137, none, .d (.bin .arith .neq (.t 135) (.t 136))⟩])
  (.cond (.t 137) (.seq (.reg [⟨some 4, none, .d (.mv (.c (.bool false)))⟩])
   (.ret)) (.skip)))
  (.seq (.reg [⟨some 4, none, .d (.mv (.c (.bool true)))⟩])
  (.ret))))))))))))))))))))))))))))), [.tmp 4]⟩
def n_x_MostKept : Nat → Option Ann := fun d => if d = 38 then some ⟨[], 1, false⟩ else if d = 40 then some ⟨[], 1, false⟩ else if d = 44 then some ⟨[], 1, false⟩ else if d = 74 then some ⟨[38], 0, false⟩ else if d = 77 then some ⟨[40], 0, false⟩ else if d = 98 then some ⟨[44], 0, false⟩ else none
abbrev k_x_MostKept : List Nat := [0, 1, 2, 4, 5, 6, 7, 8, 9, 10, 11, 12, 13, 14, 15, 16, 17, 18, 19, 22, 27, 61, 66, 71, 95, 103, 106, 129, 134, 137]
abbrev o_x_MostKept : List Nat := [2, 9, 38, 40, 44]
def c_x_MostKept : Con := pure' fun
  | [.p (.agg [v, .int .i64 m]), .p u] => match slI v, slI u with
    | some x, some l => if x.length ≤ 9223372036854775807 ∧ l.length ≤ 9223372036854775807 then some (.p (.bool true), []) else none
    | _, _ => none
  | _ => none
set_option maxRecDepth 100000 in
theorem s_x_MostKept {P : Program} (hm : P.follows .mixedOrders = true) {Γ : Gam} (hΓ : GS P Γ) {n : FuncId} {f_szState : FuncId} {f_toState : FuncId} {f_toIntS : FuncId} {f_s_MostKept : FuncId} {f_MostKept : FuncId} {f_eqBoolS : FuncId} {f_eqState : FuncId} {f_eqIntS : FuncId} {f_markState : FuncId} {f_markIntS : FuncId} {f_markBoolS : FuncId} {f_heldBoolS : FuncId} (is : Is P n (a_x_MostKept f_szState f_toState f_toIntS f_s_MostKept f_MostKept f_eqBoolS f_eqState f_eqIntS f_markState f_markIntS f_markBoolS f_heldBoolS)) (h_szState : Γ f_szState = c_szState) (h_toState : Γ f_toState = c_toState) (h_toIntS : Γ f_toIntS = c_toIntS) (h_s_MostKept : Γ f_s_MostKept = c_s_MostKept) (h_MostKept : Γ f_MostKept = c_MostKept) (h_eqBoolS : Γ f_eqBoolS = c_eqBoolS) (h_eqState : Γ f_eqState = c_eqState) (h_eqIntS : Γ f_eqIntS = c_eqIntS) (h_markState : Γ f_markState = c_markState) (h_markIntS : Γ f_markIntS = c_markIntS) (h_markBoolS : Γ f_markBoolS = c_markBoolS) (h_heldBoolS : Γ f_heldBoolS = c_heldBoolS)  : Says P n c_x_MostKept := by
  refine Says.pure fun args r fs h => ?_
  split at h
  case h_2 => cases h
  rename_i v m u
  split at h
  case h_2 => cases h
  rename_i x l hx hu
  split at h
  case isFalse => cases h
  rename_i hc
  simp only [Option.some.injEq, Prod.mk.injEq] at h
  obtain ⟨rfl, rfl⟩ := h
  have hlp := slI_lenP hx
  have hlu := slI_len hu
  by_cases hku : (l.length : Int) > 1048576
  · refine is.go hm hΓ k_x_MostKept o_x_MostKept (by simp [a_x_MostKept]) ?_
    simp only [a_x_MostKept, h_szState, c_szState, h_toState, c_toState, h_toIntS, c_toIntS, h_s_MostKept, c_s_MostKept, h_MostKept, c_MostKept, h_eqBoolS, c_eqBoolS, h_eqState, c_eqState, h_eqIntS, c_eqIntS, h_markState, c_markState, h_markIntS, c_markIntS, h_markBoolS, c_markBoolS, h_heldBoolS, c_heldBoolS, hlp, hlu, hc, hku, Int.reduceLE, Int.reduceNeg, Int.reduceLT, List.zipIdx_cons, List.zipIdx_nil, ↓SP, SQ, Gam.add, stepM, callC, argC, lendO, nmBy, nmC, likeL, likeB, plainOb, offs, exL, X, F, trP, trO, stepD, stepW, newA, SV.tr, SV.trL, fz, allP, Ob.tr, loadA, cellsA, SV.cells, binA, binI, eqOut, isSl, isPt, natOf, callee, snap, SV.refsL, SV.refs, thaw, fzAll, loA, hiA, elemOf, partsA, buildA, putCells, ↓reduceIte, reduceCtorEq, okCell, Nat.reduceAdd, Nat.reduceEqDiff, Nat.reduceSub, Nat.reduceMul, Nat.reduceLeDiff, Nat.reduceLT, Nat.reduceBEq, PV.scal, PV.scalL, SV.scal, SV.scalL, Ob.scal, PV.isCell, pure', resO]
    exact finA_val (by simp [retA, rvA, mkE_cons, mk_nil, mkO_cons, mkO_nil, loadA, SV.tr, SV.trL, nmF, rn_nil, rn_cons1, rn_cons2, plainOb, SV.refsL, SV.refs, Ob.refs, X, F, List.range_succ, mkO, setO_mk]) (by simp [SV.tr, SV.trL])
  · by_cases hk : (1048576 : Int) - (x.length : Int) < 0
    · refine is.go hm hΓ k_x_MostKept o_x_MostKept (by simp [a_x_MostKept]) ?_
      simp only [a_x_MostKept, h_szState, c_szState, h_toState, c_toState, h_toIntS, c_toIntS, h_s_MostKept, c_s_MostKept, h_MostKept, c_MostKept, h_eqBoolS, c_eqBoolS, h_eqState, c_eqState, h_eqIntS, c_eqIntS, h_markState, c_markState, h_markIntS, c_markIntS, h_markBoolS, c_markBoolS, h_heldBoolS, c_heldBoolS, hlp, hlu, hc, hk, hku, Int.reduceLE, Int.reduceNeg, Int.reduceLT, List.zipIdx_cons, List.zipIdx_nil, ↓SP, SQ, Gam.add, stepM, callC, argC, lendO, nmBy, nmC, likeL, likeB, plainOb, offs, exL, X, F, trP, trO, stepD, stepW, newA, SV.tr, SV.trL, fz, allP, Ob.tr, loadA, cellsA, SV.cells, binA, binI, eqOut, isSl, isPt, natOf, callee, snap, SV.refsL, SV.refs, thaw, fzAll, loA, hiA, elemOf, partsA, buildA, putCells, ↓reduceIte, reduceCtorEq, okCell, Nat.reduceAdd, Nat.reduceEqDiff, Nat.reduceSub, Nat.reduceMul, Nat.reduceLeDiff, Nat.reduceLT, Nat.reduceBEq, PV.scal, PV.scalL, SV.scal, SV.scalL, Ob.scal, PV.isCell, pure', resO]
      exact finA_val (by simp [retA, rvA, mkE_cons, mk_nil, mkO_cons, mkO_nil, loadA, SV.tr, SV.trL, nmF, rn_nil, rn_cons1, rn_cons2, plainOb, SV.refsL, SV.refs, Ob.refs, X, F, List.range_succ, mkO, setO_mk]) (by simp [SV.tr, SV.trL])
    · have hlen : x.length ≤ 1048576 := by omega
      have hlen2 : x.length ≤ 1100000 := by omega
      have hlen3 : l.length ≤ 1048576 := by omega
      have hlen4 : l.length ≤ 1100000 := by omega
      have hml := marks_len 1 x.length
      have hml2 := marks_len (1 + x.length) l.length
      have q0 : (0 : Int) ≤ 1 + x.length := by omega
      have q1 : (1 : Int) + x.length ≤ 10000000 := by omega
      have q2 : ¬ (1 : Int) + x.length + l.length < 0 := by omega
      have hnb : heldB [] 1 := fun j hj => by simp at hj
      cases hf : mkR x m l with
      | some w =>
        have al := ansK_len l.length (w.2 : Int)
        have hmb := marksB_len 1 l.length
        have hhb := heldB_marks 1 l.length
        have q3 : ¬ (1 : Int) + l.length < 0 := by omega
        refine is.go hm hΓ k_x_MostKept o_x_MostKept (by simp [a_x_MostKept]) ?_
        simp only [a_x_MostKept, h_szState, c_szState, h_toState, c_toState, h_toIntS, c_toIntS, h_s_MostKept, c_s_MostKept, h_MostKept, c_MostKept, h_eqBoolS, c_eqBoolS, h_eqState, c_eqState, h_eqIntS, c_eqIntS, h_markState, c_markState, h_markIntS, c_markIntS, h_markBoolS, c_markBoolS, h_heldBoolS, c_heldBoolS, hx, hu, hlp, hlu, hc, hk, hku, hlen, hlen2, hlen3, hlen4, hf, mkO', mkS, hml, hml2, q0, q1, q2, q3, al, hmb, hhb, bools_len, slI_sl, slB_sl, beq_self_eq_true, Bool.not_true, Int.reduceLE, Int.reduceNeg, Int.reduceLT, bne_self_eq_false, List.zipIdx_cons, List.zipIdx_nil, ↓SP, SQ, Gam.add, stepM, callC, argC, lendO, nmBy, nmC, likeL, likeB, plainOb, offs, exL, X, F, trP, trO, stepD, stepW, newA, SV.tr, SV.trL, fz, allP, Ob.tr, loadA, cellsA, SV.cells, binA, binI, eqOut, isSl, isPt, natOf, callee, snap, SV.refsL, SV.refs, thaw, fzAll, loA, hiA, elemOf, partsA, buildA, putCells, ↓reduceIte, reduceCtorEq, okCell, Nat.reduceAdd, Nat.reduceEqDiff, Nat.reduceSub, Nat.reduceMul, Nat.reduceLeDiff, Nat.reduceLT, Nat.reduceBEq, PV.scal, PV.scalL, SV.scal, SV.scalL, Ob.scal, PV.isCell, pure', resO]
        exact finA_val (by simp [retA, rvA, mkE_cons, mk_nil, mkO_cons, mkO_nil, loadA, SV.tr, SV.trL, nmF, rn_nil, rn_cons1, rn_cons2, plainOb, SV.refsL, SV.refs, Ob.refs, X, F, List.range_succ, mkO, setO_mk]) (by simp [SV.tr, SV.trL])
      | none =>
        have hb0 : slB (.sl 1 []) = some [] := rfl
        refine is.go hm hΓ k_x_MostKept o_x_MostKept (by simp [a_x_MostKept]) ?_
        simp only [a_x_MostKept, h_szState, c_szState, h_toState, c_toState, h_toIntS, c_toIntS, h_s_MostKept, c_s_MostKept, h_MostKept, c_MostKept, h_eqBoolS, c_eqBoolS, h_eqState, c_eqState, h_eqIntS, c_eqIntS, h_markState, c_markState, h_markIntS, c_markIntS, h_markBoolS, c_markBoolS, h_heldBoolS, c_heldBoolS, hx, hu, hlp, hlu, hc, hk, hku, hlen, hlen2, hlen3, hlen4, hf, mkO', mkS, hml, hml2, q0, q1, q2, hnb, hb0, bools_len, slI_sl, slB_sl, slB_nil, Bool.false_eq_true, beq_self_eq_true, Bool.not_true, Int.reduceLE, Int.reduceNeg, Int.reduceLT, bne_self_eq_false, List.zipIdx_cons, List.zipIdx_nil, ↓SP, SQ, Gam.add, stepM, callC, argC, lendO, nmBy, nmC, likeL, likeB, plainOb, offs, exL, X, F, trP, trO, stepD, stepW, newA, SV.tr, SV.trL, fz, allP, Ob.tr, loadA, cellsA, SV.cells, binA, binI, eqOut, isSl, isPt, natOf, callee, snap, SV.refsL, SV.refs, thaw, fzAll, loA, hiA, elemOf, partsA, buildA, putCells, ↓reduceIte, reduceCtorEq, okCell, Nat.reduceAdd, Nat.reduceEqDiff, Nat.reduceSub, Nat.reduceMul, Nat.reduceLeDiff, Nat.reduceLT, Nat.reduceBEq, PV.scal, PV.scalL, SV.scal, SV.scalL, Ob.scal, PV.isCell, pure', resO]
        exact finA_val (by simp [retA, rvA, mkE_cons, mk_nil, mkO_cons, mkO_nil, loadA, SV.tr, SV.trL, nmF, rn_nil, rn_cons1, rn_cons2, plainOb, SV.refsL, SV.refs, Ob.refs, X, F, List.range_succ, mkO, setO_mk]) (by simp [SV.tr, SV.trL])
end Go.Proofs.Ytnonkjcklgihhaa.Pam
