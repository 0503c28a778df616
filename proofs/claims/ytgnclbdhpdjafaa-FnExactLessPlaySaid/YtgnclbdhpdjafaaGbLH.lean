/- A part of the proof that stands in this folder: a small machine whose steps are shown to be the steps of the model, or walks of functions by it. No condition of its own. -/
import Derived.Test.YtgnclbdhpdjafaaGbLC
set_option linter.unusedVariables false
set_option linter.unusedSimpArgs false
namespace Go.Proofs.Ytgnclbdhpdjafaa.Pam
open Go
/-- What a number's lies become behind an answer that is false for it. -/
def afterF (f : Nat → Bool) (m : Int) (l : List Int) (i : Nat) : Int := if 0 ≤ l.getD i 0 ∧ f i = true then (if m < l.getD i 0 + 1 then -1 else l.getD i 0 + 1) else l.getD i 0
def afterL (f : Nat → Bool) (m : Int) (l : List Int) : List Int := (List.range l.length).map (afterF f m l)
theorem afterL_len (f : Nat → Bool) (m : Int) (l : List Int) : (afterL f m l).length = l.length := by simp [afterL]
/-- The numbers from 0 on. -/
def upto (n : Nat) : List PV := ints ((List.range n).map fun i : Nat => (i : Int))
theorem upto_get {n i : Nat} (h : i < n) : (upto n)[i]? = some (.int .i64 i) := by
  simp [upto, ints, h]
theorem upto_len (n : Nat) : (upto n).length = n := by simp [upto, ints]
def a_after (f_Clone : FuncId) : AFn := ⟨2, 
  .seq (.reg [⟨some 2, none, .w (.box 2 (.t 0))⟩,
    ⟨some 4, none, .w (.alloc [.nilsl, .int .i64 0])⟩])
  (.seq (.dreg [10, 5] [([10, 5], ⟨some 8, none, .d (.fa 0 (.t 2))⟩),
    ([10, 5], ⟨some 9, none, .d (.load false 1 (.t 8))⟩),
    ([5], ⟨some 10, none, .w (.callL (.f f_Clone) [(.t 9)] [] 1 false)⟩),
    ([10, 5], ⟨some 11, none, .d (.fa 1 (.t 2))⟩),
    ([10, 5], ⟨some 12, none, .d (.load false 1 (.t 11))⟩),
    ([5], ⟨some 13, none, .d (.build [.nilsl, .int .i64 0] [(0, 1, (.t 10)), (1, 1, (.t 12))])⟩),
    ([10], ⟨some 5, none, .w (.alloc [.nilsl, .int .i64 0])⟩)] [⟨none, none, .w (.store 2 (.t 5) (.t 13))⟩])
  (.seq (.seq (.reg [⟨some 14, none, .d (.fa 0 (.t 5))⟩,
    ⟨some 15, none, .d (.load false 1 (.t 14))⟩,
    ⟨some 16, none, .d (.len (.t 15))⟩,
    ⟨some 17, none, .d (.mv (.c (.int .i64 0)))⟩])
  (.block 0 (.loop (.seq (.reg [⟨some 18, none, .d (.bin .arith .lss (.t 17) (.t 16))⟩])
    (.seq (.cond (.t 18) (.skip) (.exit 0))
    (.seq (.block 1 (.seq (.reg [⟨some 19, none, .d (.mv (.t 17))⟩,
       ⟨some 20, none, .d (.ia 1 (.t 15) (.t 17))⟩,
       ⟨some 21, none, .d (.load false 1 (.t 20))⟩,
       ⟨some 6, none, .d (.mv (.t 19))⟩,
       ⟨some 7, none, .d (.mv (.t 21))⟩])
     (.seq (.reg [⟨some 22, none, .d (.mv (.t 7))⟩,
       ⟨some 23, none, .d (.bin .arith .geq (.t 22) (.c (.int .i64 0)))⟩,
       ⟨some 24, none, .d (.mv (.t 23))⟩,
       ⟨some 25, some (24, true), .d (.mv (.t 1))⟩,
       ⟨some 26, some (24, true), .d (.mv (.t 6))⟩,
       ⟨some 27, some (24, true), .d (.call (.t 25) [(.t 26)])⟩,
       ⟨some 28, none, .d (.pick (.t 24) (.t 27) (.c (.bool false)))⟩])
     (.cond (.t 28) (.seq (.reg [⟨some 29, none, .d (.fa 0 (.t 5))⟩,
        ⟨some 30, none, .d (.load false 1 (.t 29))⟩,
        ⟨some 31, none, .d (.mv (.t 6))⟩,
        ⟨some 32, none, .d (.ia 1 (.t 30) (.t 31))⟩,
        ⟨some 33, none, .d (.load false 1 (.t 32))⟩,
        ⟨some 34, none, .d (.bin .arith .add (.t 33) (.c (.int .i64 1)))⟩,
        ⟨some 35, none, .d (.ia 1 (.t 30) (.t 31))⟩,
        ⟨none, none, .w (.store 1 (.t 35) (.t 34))⟩])
      (.seq (.dreg [] [([], ⟨some 36, none, .d (.fa 0 (.t 5))⟩),
        ([], ⟨some 37, none, .d (.load false 1 (.t 36))⟩),
        ([], ⟨some 38, none, .d (.mv (.t 6))⟩),
        ([], ⟨some 39, none, .d (.ia 1 (.t 37) (.t 38))⟩),
        ([], ⟨some 40, none, .d (.load false 1 (.t 39))⟩),
        ([], ⟨some 41, none, .d (.fa 1 (.t 2))⟩),
        ([], ⟨some 42, none, .d (.load false 1 (.t 41))⟩)] [⟨some 43, none, .d (.bin .arith .gtr (.t 40) (.t 42))⟩])
      (.cond (.t 43) (.reg [⟨some 44, none, .d (.fa 0 (.t 5))⟩,
         ⟨some 45, none, .d (.load false 1 (.t 44))⟩,
         ⟨some 46, none, .d (.mv (.t 6))⟩,
         ⟨some 47, none, .d (.ia 1 (.t 45) (.t 46))⟩,
         ⟨none, none, .w (.store 1 (.t 47) (.c (.int .i64 (-1))))⟩]) (.skip)))) (.skip)))))
    (.reg [⟨some 48, none, .d (.bin .arith .add (.t 17) (.c (.int .i64 1)))⟩,
      ⟨some 17, none, .d (.mv (.t 48))⟩])))))))
  (.seq (.reg [⟨some 49, none, .d (.load true 2 (.t 5))⟩,
    ⟨none, none, .w (.store 2 (.t 4) (.t 49))⟩])
  (.ret)))), [.cell 4 2 true]⟩
def n_after : Nat → Option Ann := fun d => if d = 10 then some ⟨[], 1, false⟩ else none
abbrev k_after : List Nat := [0, 1, 2, 4, 5, 6, 7, 15, 16, 17, 18, 28, 43]
abbrev o_after : List Nat := [2, 4, 5, 10]
def c_after (Γ0 : Gam) : Con := pure' fun
  | [.p (.agg [.sl 1 xs, .int .i64 m]), .p (.fn g a b)] => if isI xs = true ∧ xs.length ≤ 1100000 ∧ ((ofI xs).all fun x => decide (x ≤ 1000)) = true then (match askF Γ0 g a b (upto xs.length) with
    | some bs => some (.ag [.ar 2000000, .p (.int .i64 m)], [.arr 1 (ints (afterL (fun i => bs.getD i false) m (ofI xs)))])
    | none => none) else none
  | _ => none
theorem dec_t {p : Prop} [Decidable p] (h : p) : decide p = true := by simpa using h
theorem dec_f {p : Prop} [Decidable p] (h : ¬ p) : decide p = false := by simpa using h
theorem s_after {P : Program} (hm : P.follows .mixedOrders = true) {Γ : Gam} (hΓ : GS P Γ) {n : FuncId} {f_Clone : FuncId} (is : Is P n (a_after f_Clone)) (h_Clone : Γ f_Clone = c_Clone)  : Says P n (c_after Γ) := by
  refine Says.pure fun args r fs h => ?_
  split at h
  case h_2 => cases h
  rename_i xs m g a b
  split at h
  case isFalse => cases h
  rename_i hc
  obtain ⟨hx, hlen, hsm⟩ := hc
  obtain ⟨l, rfl⟩ := isI_out hx
  rw [ints_len] at hlen
  rw [ofI_ints] at hsm
  split at h
  case h_2 => cases h
  rename_i bs hbs
  simp only [Option.some.injEq, Prod.mk.injEq, ofI_ints] at h
  obtain ⟨rfl, rfl⟩ := h
  rw [ints_len] at hbs
  generalize hf : (fun i => bs.getD i false) = f
  have hbl := askF_len hbs
  rw [upto_len] at hbl
  refine is.go hm hΓ k_after o_after (by simp [a_after]) ?_
  simp only [a_after, h_Clone, c_Clone, hlen, List.zipIdx_cons, List.zipIdx_nil, ↓SP, SQ, Gam.add, stepM, callC, argC, lendO, nmBy, nmC, likeL, likeB, plainOb, offs, exL, X, F, trP, trO, stepD, stepW, newA, SV.tr, SV.trL, fz, allP, Ob.tr, loadA, cellsA, SV.cells, binA, binI, eqOut, isSl, isPt, natOf, callee, snap, SV.refsL, SV.refs, thaw, fzAll, loA, hiA, elemOf, partsA, buildA, putCells, ↓reduceIte, reduceCtorEq, okCell, Nat.reduceAdd, Nat.reduceEqDiff, Nat.reduceSub, Nat.reduceMul, Nat.reduceLeDiff, Nat.reduceLT, Nat.reduceBEq, PV.scal, PV.scalL, SV.scal, SV.scalL, Ob.scal, PV.isCell, pure', resO]
  refine loop_at (fun s : Nat × SV × SV × SV × SV × SV => mkEnv [(0, .p (.agg [.sl 1 (ints l), .int .i64 m])), (1, .p (.fn g a b)), (2, .bx 2 0), (4, .bx 4 0), (5, .bx 5 0), (6, s.2.1), (7, s.2.2.1), (15, .ar 10), (16, si l.length), (17, si s.1), (18, s.2.2.2.1), (28, s.2.2.2.2.1), (43, s.2.2.2.2.2)]) (fun s => mkO [(2, some (.box [.p (.sl 1 (ints l)), si m])), (4, some (.box [.p .nilsl, si 0])), (5, some (.box [.ar 10, si m])), (10, some (.arr 1 (ints (fillL (afterF f m l) l s.1))))]) (fun s => s.1 ≤ l.length) (fun s => l.length - s.1) (0, .junk, .junk, .junk, .junk, .junk) (by simp) rfl (by simp only [fill_0]) ?_
  rintro ⟨i, c1, c2, c3, c4, c5⟩ hi R hR hN
  simp only at hi
  have hfl := fill_len (afterF f m l) l hi
  by_cases h : i < l.length
  · have h1 : (i : Int) < l.length := by omega
    have hw := wrap_one (i := i) (by omega)
    have hg : (ints (fillL (afterF f m l) l i))[i]? = some (.int .i64 (l.getD i 0)) := by rw [ints_get (by omega), fill_get _ _ _ h]
    have hq := askF_get hbs (upto_get h)
    have hxs : l.getD i 0 ≤ 1000 := by
      have := List.all_eq_true.1 hsm (l.getD i 0) (by rw [getD_lt h]; exact List.getElem_mem h)
      simpa using this
    have hfi : bs.getD i false = f i := by rw [← hf]
    rw [hfi] at hq
    by_cases hx0 : 0 ≤ l.getD i 0
    · cases hb : f i with
      | false =>
        rw [hb] at hq
        have hs : fillL (afterF f m l) l (i + 1) = fillL (afterF f m l) l i := fill_same _ _ 0 h (by simp [afterF, hb])
        simp only [h1, hw, hg, hfl, h, call_ps, refs_ps, hq, hx0, ↓SP, SQ, Gam.add, stepM, callC, argC, lendO, nmBy, nmC, likeL, likeB, plainOb, offs, exL, X, F, trP, trO, stepD, stepW, newA, SV.tr, SV.trL, fz, allP, Ob.tr, loadA, cellsA, SV.cells, binA, binI, eqOut, isSl, isPt, natOf, callee, snap, SV.refsL, SV.refs, thaw, fzAll, loA, hiA, elemOf, partsA, buildA, putCells, ↓reduceIte, reduceCtorEq, okCell, Nat.reduceAdd, Nat.reduceEqDiff, Nat.reduceSub, Nat.reduceMul, Nat.reduceLeDiff, Nat.reduceLT, Nat.reduceBEq, PV.scal, PV.scalL, SV.scal, SV.scalL, Ob.scal, PV.isCell, pure', resO]
        rw [← hs]
        exact hN (i + 1, _, _, _, _, _) _ _ (by simp only; omega) (by simp only; omega) rfl rfl
      | true =>
        rw [hb] at hq
        have hwx : IntKind.i64.wrap (l.getD i 0 + 1) = l.getD i 0 + 1 := wrap64 (by omega) (by omega)
        have hlt : i < (fillL (afterF f m l) l i).length := by omega
        have hg2 : (ints ((fillL (afterF f m l) l i).set i (l.getD i 0 + 1)))[i]? = some (.int .i64 (l.getD i 0 + 1)) := by
          rw [ints_get (by simpa using hlt), getD_lt (by simpa using hlt)]; simp
        by_cases hm1 : m < l.getD i 0 + 1
        · have hs : ((fillL (afterF f m l) l i).set i (l.getD i 0 + 1)).set i (-1) = fillL (afterF f m l) l (i + 1) := by
            rw [List.set_set]; exact fill_set _ _ h (by simp only [afterF, hx0, hb, hm1, and_self, if_true])
          simp only [h1, hw, hg, hfl, h, call_ps, refs_ps, hq, hx0, hwx, ints_set, hg2, hm1, List.length_set, hs, ↓SP, SQ, Gam.add, stepM, callC, argC, lendO, nmBy, nmC, likeL, likeB, plainOb, offs, exL, X, F, trP, trO, stepD, stepW, newA, SV.tr, SV.trL, fz, allP, Ob.tr, loadA, cellsA, SV.cells, binA, binI, eqOut, isSl, isPt, natOf, callee, snap, SV.refsL, SV.refs, thaw, fzAll, loA, hiA, elemOf, partsA, buildA, putCells, ↓reduceIte, reduceCtorEq, okCell, Nat.reduceAdd, Nat.reduceEqDiff, Nat.reduceSub, Nat.reduceMul, Nat.reduceLeDiff, Nat.reduceLT, Nat.reduceBEq, PV.scal, PV.scalL, SV.scal, SV.scalL, Ob.scal, PV.isCell, pure', resO]
          exact hN (i + 1, _, _, _, _, _) _ _ (by simp only; omega) (by simp only; omega) rfl rfl
        · have hs : (fillL (afterF f m l) l i).set i (l.getD i 0 + 1) = fillL (afterF f m l) l (i + 1) := fill_set _ _ h (by simp only [afterF, hx0, hb, hm1, and_self, if_true, if_false])
          rw [hs] at hg2
          have hfl2 := fill_len (afterF f m l) l (i := i + 1) (by omega)
          simp only [h1, hw, hg, hfl, h, call_ps, refs_ps, hq, hx0, hwx, ints_set, hg2, hm1, hs, hfl2, ↓SP, SQ, Gam.add, stepM, callC, argC, lendO, nmBy, nmC, likeL, likeB, plainOb, offs, exL, X, F, trP, trO, stepD, stepW, newA, SV.tr, SV.trL, fz, allP, Ob.tr, loadA, cellsA, SV.cells, binA, binI, eqOut, isSl, isPt, natOf, callee, snap, SV.refsL, SV.refs, thaw, fzAll, loA, hiA, elemOf, partsA, buildA, putCells, ↓reduceIte, reduceCtorEq, okCell, Nat.reduceAdd, Nat.reduceEqDiff, Nat.reduceSub, Nat.reduceMul, Nat.reduceLeDiff, Nat.reduceLT, Nat.reduceBEq, PV.scal, PV.scalL, SV.scal, SV.scalL, Ob.scal, PV.isCell, pure', resO]
          exact hN (i + 1, _, _, _, _, _) _ _ (by simp only; omega) (by simp only; omega) rfl rfl
    · have hs : fillL (afterF f m l) l (i + 1) = fillL (afterF f m l) l i := fill_same _ _ 0 h (by simp only [afterF, hx0, false_and, if_false])
      simp only [h1, hw, hg, hfl, h, hx0, ↓SP, SQ, Gam.add, stepM, callC, argC, lendO, nmBy, nmC, likeL, likeB, plainOb, offs, exL, X, F, trP, trO, stepD, stepW, newA, SV.tr, SV.trL, fz, allP, Ob.tr, loadA, cellsA, SV.cells, binA, binI, eqOut, isSl, isPt, natOf, callee, snap, SV.refsL, SV.refs, thaw, fzAll, loA, hiA, elemOf, partsA, buildA, putCells, ↓reduceIte, reduceCtorEq, okCell, Nat.reduceAdd, Nat.reduceEqDiff, Nat.reduceSub, Nat.reduceMul, Nat.reduceLeDiff, Nat.reduceLT, Nat.reduceBEq, PV.scal, PV.scalL, SV.scal, SV.scalL, Ob.scal, PV.isCell, pure', resO]
      rw [← hs]
      exact hN (i + 1, _, _, _, _, _) _ _ (by simp only; omega) (by simp only; omega) rfl rfl
  · have he : i = l.length := by omega
    have h1 : ¬ (i : Int) < l.length := by omega
    simp only [h1, ↓SP, SQ, Gam.add, stepM, callC, argC, lendO, nmBy, nmC, likeL, likeB, plainOb, offs, exL, X, F, trP, trO, stepD, stepW, newA, SV.tr, SV.trL, fz, allP, Ob.tr, loadA, cellsA, SV.cells, binA, binI, eqOut, isSl, isPt, natOf, callee, snap, SV.refsL, SV.refs, thaw, fzAll, loA, hiA, elemOf, partsA, buildA, putCells, ↓reduceIte, reduceCtorEq, okCell, Nat.reduceAdd, Nat.reduceEqDiff, Nat.reduceSub, Nat.reduceMul, Nat.reduceLeDiff, Nat.reduceLT, Nat.reduceBEq, PV.scal, PV.scalL, SV.scal, SV.scalL, Ob.scal, PV.isCell, pure', resO]
    refine hR _ _ _ (by intro h; cases h) ?_
    simp only [↓SP, SQ, Gam.add, stepM, callC, argC, lendO, nmBy, nmC, likeL, likeB, plainOb, offs, exL, X, F, trP, trO, stepD, stepW, newA, SV.tr, SV.trL, fz, allP, Ob.tr, loadA, cellsA, SV.cells, binA, binI, eqOut, isSl, isPt, natOf, callee, snap, SV.refsL, SV.refs, thaw, fzAll, loA, hiA, elemOf, partsA, buildA, putCells, ↓reduceIte, reduceCtorEq, okCell, Nat.reduceAdd, Nat.reduceEqDiff, Nat.reduceSub, Nat.reduceMul, Nat.reduceLeDiff, Nat.reduceLT, Nat.reduceBEq, PV.scal, PV.scalL, SV.scal, SV.scalL, Ob.scal, PV.isCell, pure', resO]
    subst he
    have hfe := fill_end (afterF f m l) l
    exact finA_gen [10] trivial (by simp [retA, rvA, List.mapM_cons, List.mapM_nil, Option.pure_def, Option.bind_eq_bind, Option.bind_some, Option.map_some, mkE_cons, mk_nil, mkO_cons, mkO_nil, loadA, ↓reduceIte, List.take_succ_cons, List.take_zero, List.drop_zero, List.drop_succ_cons, List.length_cons, List.length_nil, Nat.reduceAdd, Nat.reduceEqDiff, Nat.reduceLeDiff, Nat.zero_add, Nat.le_refl, reduceCtorEq, SV.tr, SV.trL, nmF, rn_nil, rn_cons1, rn_cons2, List.map_cons, List.map_nil, List.all_cons, List.all_nil, plainOb, SV.refsL, SV.refs, Ob.refs, X, F, List.range_succ, List.range_zero, List.nil_append, List.cons_append, List.isEmpty_nil, decide_true, Nat.reduceLT, Bool.and_self, Bool.and_true, and_self, and_true, List.getElem?_cons_zero, List.getElem?_cons_succ, List.nodup_cons, List.nodup_nil, List.mem_cons, List.not_mem_nil, not_false_eq_true, or_false, List.append_nil, mkO, setO_mk, List.mem_singleton]; rfl) (by simp [hfe, afterL, retA, rvA, List.mapM_cons, List.mapM_nil, Option.pure_def, Option.bind_eq_bind, Option.bind_some, Option.map_some, mkE_cons, mk_nil, mkO_cons, mkO_nil, loadA, ↓reduceIte, List.take_succ_cons, List.take_zero, List.drop_zero, List.drop_succ_cons, List.length_cons, List.length_nil, Nat.reduceAdd, Nat.reduceEqDiff, Nat.reduceLeDiff, Nat.zero_add, Nat.le_refl, reduceCtorEq, SV.tr, SV.trL, nmF, rn_nil, rn_cons1, rn_cons2, List.map_cons, List.map_nil, List.all_cons, List.all_nil, plainOb, SV.refsL, SV.refs, Ob.refs, X, F, List.range_succ, List.range_zero, List.nil_append, List.cons_append, List.isEmpty_nil, decide_true, Nat.reduceLT, Bool.and_self, Bool.and_true, and_self, and_true, List.getElem?_cons_zero, List.getElem?_cons_succ, List.nodup_cons, List.nodup_nil, List.mem_cons, List.not_mem_nil, not_false_eq_true, or_false, List.append_nil, mkO, setO_mk, List.mem_singleton]) (by simp [hfe, afterL, retA, rvA, List.mapM_cons, List.mapM_nil, Option.pure_def, Option.bind_eq_bind, Option.bind_some, Option.map_some, mkE_cons, mk_nil, mkO_cons, mkO_nil, loadA, ↓reduceIte, List.take_succ_cons, List.take_zero, List.drop_zero, List.drop_succ_cons, List.length_cons, List.length_nil, Nat.reduceAdd, Nat.reduceEqDiff, Nat.reduceLeDiff, Nat.zero_add, Nat.le_refl, reduceCtorEq, SV.tr, SV.trL, nmF, rn_nil, rn_cons1, rn_cons2, List.map_cons, List.map_nil, List.all_cons, List.all_nil, plainOb, SV.refsL, SV.refs, Ob.refs, X, F, List.range_succ, List.range_zero, List.nil_append, List.cons_append, List.isEmpty_nil, decide_true, Nat.reduceLT, Bool.and_self, Bool.and_true, and_self, and_true, List.getElem?_cons_zero, List.getElem?_cons_succ, List.nodup_cons, List.nodup_nil, List.mem_cons, List.not_mem_nil, not_false_eq_true, or_false, List.append_nil, mkO, setO_mk, List.mem_singleton]) (by simp) (by simp) (by simp [retA, rvA, List.mapM_cons, List.mapM_nil, Option.pure_def, Option.bind_eq_bind, Option.bind_some, Option.map_some, mkE_cons, mk_nil, mkO_cons, mkO_nil, loadA, ↓reduceIte, List.take_succ_cons, List.take_zero, List.drop_zero, List.drop_succ_cons, List.length_cons, List.length_nil, Nat.reduceAdd, Nat.reduceEqDiff, Nat.reduceLeDiff, Nat.zero_add, Nat.le_refl, reduceCtorEq, SV.tr, SV.trL, nmF, rn_nil, rn_cons1, rn_cons2, List.map_cons, List.map_nil, List.all_cons, List.all_nil, plainOb, SV.refsL, SV.refs, Ob.refs, X, F, List.range_succ, List.range_zero, List.nil_append, List.cons_append, List.isEmpty_nil, decide_true, Nat.reduceLT, Bool.and_self, Bool.and_true, and_self, and_true, List.getElem?_cons_zero, List.getElem?_cons_succ, List.nodup_cons, List.nodup_nil, List.mem_cons, List.not_mem_nil, not_false_eq_true, or_false, List.append_nil, mkO, setO_mk, List.mem_singleton]) (by simp [hfe, afterL, retA, rvA, List.mapM_cons, List.mapM_nil, Option.pure_def, Option.bind_eq_bind, Option.bind_some, Option.map_some, mkE_cons, mk_nil, mkO_cons, mkO_nil, loadA, ↓reduceIte, List.take_succ_cons, List.take_zero, List.drop_zero, List.drop_succ_cons, List.length_cons, List.length_nil, Nat.reduceAdd, Nat.reduceEqDiff, Nat.reduceLeDiff, Nat.zero_add, Nat.le_refl, reduceCtorEq, SV.tr, SV.trL, nmF, rn_nil, rn_cons1, rn_cons2, List.map_cons, List.map_nil, List.all_cons, List.all_nil, plainOb, SV.refsL, SV.refs, Ob.refs, X, F, List.range_succ, List.range_zero, List.nil_append, List.cons_append, List.isEmpty_nil, decide_true, Nat.reduceLT, Bool.and_self, Bool.and_true, and_self, and_true, List.getElem?_cons_zero, List.getElem?_cons_succ, List.nodup_cons, List.nodup_nil, List.mem_cons, List.not_mem_nil, not_false_eq_true, or_false, List.append_nil, mkO, setO_mk, List.mem_singleton]) (by simp [hfe, afterL, retA, rvA, List.mapM_cons, List.mapM_nil, Option.pure_def, Option.bind_eq_bind, Option.bind_some, Option.map_some, mkE_cons, mk_nil, mkO_cons, mkO_nil, loadA, ↓reduceIte, List.take_succ_cons, List.take_zero, List.drop_zero, List.drop_succ_cons, List.length_cons, List.length_nil, Nat.reduceAdd, Nat.reduceEqDiff, Nat.reduceLeDiff, Nat.zero_add, Nat.le_refl, reduceCtorEq, SV.tr, SV.trL, nmF, rn_nil, rn_cons1, rn_cons2, List.map_cons, List.map_nil, List.all_cons, List.all_nil, plainOb, SV.refsL, SV.refs, Ob.refs, X, F, List.range_succ, List.range_zero, List.nil_append, List.cons_append, List.isEmpty_nil, decide_true, Nat.reduceLT, Bool.and_self, Bool.and_true, and_self, and_true, List.getElem?_cons_zero, List.getElem?_cons_succ, List.nodup_cons, List.nodup_nil, List.mem_cons, List.not_mem_nil, not_false_eq_true, or_false, List.append_nil, mkO, setO_mk, List.mem_singleton])
def a_l2After (f_l1Own : FuncId) (f_l2False : FuncId) : AFn := ⟨3, 
  .seq (.reg [⟨some 3, none, .w (.box 2 (.t 0))⟩,
    ⟨some 6, none, .w (.alloc [.nilsl, .int .i64 0])⟩])
  (.seq (.dreg [11, 7] [([11, 7], ⟨some 9, none, .d (.fa 0 (.t 3))⟩),
    ([11, 7], ⟨some 10, none, .d (.load false 1 (.t 9))⟩),
    ([7], ⟨some 11, none, .w (.callL (.f f_l1Own) [(.t 10)] [] 1 false)⟩),
    ([11, 7], ⟨some 12, none, .d (.fa 1 (.t 3))⟩),
    ([11, 7], ⟨some 13, none, .d (.load false 1 (.t 12))⟩),
    ([7], ⟨some 14, none, .d (.build [.nilsl, .int .i64 0] [(0, 1, (.t 11)), (1, 1, (.t 13))])⟩),
    ([11], ⟨some 7, none, .w (.alloc [.nilsl, .int .i64 0])⟩)] [⟨none, none, .w (.store 2 (.t 7) (.t 14))⟩])
  (.seq (.seq (.reg [⟨some 8, none, .d (.mv (.c (.int .i64 0)))⟩])
  (.block 0 (.loop (.seq (.seq (.reg [⟨some 15, none, .d (.mv (.t 8))⟩,
      ⟨some 16, none, .d (.fa 0 (.t 7))⟩,
      ⟨some 17, none, .d (.load false 1 (.t 16))⟩,
      ⟨some 18, none, .d (.len (.t 17))⟩,
      ⟨some 19, none, .d (.bin .arith .lss (.t 15) (.t 18))⟩])
    (.cond (.t 19) (.skip) (.exit 0)))
    (.seq (.block 1 (.seq (.reg [⟨some 22, none, .d (.fa 0 (.t 7))⟩,
       ⟨some 23, none, .d (.load false 1 (.t 22))⟩,
       ⟨some 24, none, .d (.mv (.t 8))⟩,
       ⟨some 25, none, .d (.ia 1 (.t 23) (.t 24))⟩,
       ⟨some 26, none, .d (.load false 1 (.t 25))⟩,
       ⟨some 27, none, .d (.bin .arith .geq (.t 26) (.c (.int .i64 0)))⟩,
       ⟨some 28, none, .d (.mv (.t 27))⟩,
       ⟨some 29, some (28, true), .d (.mv (.t 1))⟩,
       ⟨some 30, some (28, true), .d (.mv (.t 2))⟩,
       ⟨some 31, some (28, true), .d (.mv (.t 8))⟩,
       ⟨some 32, some (28, true), .d (.call (.f f_l2False) [(.t 29), (.t 30), (.t 31)])⟩,
       ⟨some 33, none, .d (.pick (.t 28) (.t 32) (.c (.bool false)))⟩])
     (.cond (.t 33) (.seq (.reg [⟨some 34, none, .d (.fa 0 (.t 7))⟩,
        ⟨some 35, none, .d (.load false 1 (.t 34))⟩,
        ⟨some 36, none, .d (.mv (.t 8))⟩,
        ⟨some 37, none, .d (.ia 1 (.t 35) (.t 36))⟩,
        ⟨some 38, none, .d (.load false 1 (.t 37))⟩,
        ⟨some 39, none, .d (.bin .arith .add (.t 38) (.c (.int .i64 1)))⟩,
        ⟨some 40, none, .d (.ia 1 (.t 35) (.t 36))⟩,
        ⟨none, none, .w (.store 1 (.t 40) (.t 39))⟩])
      (.seq (.dreg [] [([], ⟨some 41, none, .d (.fa 0 (.t 7))⟩),
        ([], ⟨some 42, none, .d (.load false 1 (.t 41))⟩),
        ([], ⟨some 43, none, .d (.mv (.t 8))⟩),
        ([], ⟨some 44, none, .d (.ia 1 (.t 42) (.t 43))⟩),
        ([], ⟨some 45, none, .d (.load false 1 (.t 44))⟩),
        ([], ⟨some 46, none, .d (.fa 1 (.t 3))⟩),
        ([], ⟨some 47, none, .d (.load false 1 (.t 46))⟩)] [⟨some 48, none, .d (.bin .arith .gtr (.t 45) (.t 47))⟩])
      (.cond (.t 48) (.reg [⟨some 49, none, .d (.fa 0 (.t 7))⟩,
         ⟨some 50, none, .d (.load false 1 (.t 49))⟩,
         ⟨some 51, none, .d (.mv (.t 8))⟩,
         ⟨some 52, none, .d (.ia 1 (.t 50) (.t 51))⟩,
         ⟨none, none, .w (.store 1 (.t 52) (.c (.int .i64 (-1))))⟩]) (.skip)))) (.skip))))
    (.reg [⟨some 20, none, .d (.mv (.t 8))⟩,
      ⟨some 21, none, .d (.bin .arith .add (.t 20) (.c (.int .i64 1)))⟩,
      ⟨some 8, none, .d (.mv (.t 21))⟩]))))))
  (.seq (.reg [⟨some 53, none, .d (.load true 2 (.t 7))⟩,
    ⟨none, none, .w (.store 2 (.t 6) (.t 53))⟩])
  (.ret)))), [.cell 6 2 true]⟩
def n_l2After : Nat → Option Ann := fun d => if d = 11 then some ⟨[], 1, false⟩ else none
abbrev k_l2After : List Nat := [0, 1, 2, 3, 6, 7, 8, 19, 33, 48]
abbrev o_l2After : List Nat := [3, 6, 7, 11]
def c_l2After : Con := pure' fun
  | [.p (.agg [.sl 1 l_, .int .i64 m]), .p (.int .i64 q), .p (.bool y)] => if isI l_ = true ∧ ((ofI l_).length ≤ 1100000 ∧ ((ofI l_).all fun x => decide (x ≤ 1000)) = true) then some (.ag [.ar 2000000, .p (.int .i64 m)], [.arr 1 (ints (afterL (fun i => (bitW q i == 1) != y) m (ofI l_)))]) else none
  | _ => none
theorem s_l2After {P : Program} (hm : P.follows .mixedOrders = true) {Γ : Gam} (hΓ : GS P Γ) {n : FuncId} {f_l1Own : FuncId} {f_l2False : FuncId} (is : Is P n (a_l2After f_l1Own f_l2False)) (h_l1Own : Γ f_l1Own = c_Clone) (h_l2False : Γ f_l2False = c_l2False)  : Says P n c_l2After := by
  refine Says.pure fun args r fs h => ?_
  split at h
  case h_2 => cases h
  rename_i l_ m q y
  split at h
  case isFalse => cases h
  rename_i hc
  obtain ⟨hl_, hc⟩ := hc
  obtain ⟨l, rfl⟩ := isI_out hl_
  simp only [ofI_ints, ofBo_bools, ofAs_asks, Option.some.injEq, Prod.mk.injEq] at h hc
  obtain ⟨rfl, rfl⟩ := h
  obtain ⟨hlen, hsm⟩ := hc
  generalize hf : (fun i : Nat => (bitW q i == 1) != y) = f
  refine is.go hm hΓ k_l2After o_l2After (by simp [a_l2After]) ?_
  simp only [a_l2After, h_l1Own, c_Clone, h_l2False, c_l2False, hlen, List.zipIdx_cons, List.zipIdx_nil, ↓SP, SQ, Gam.add, stepM, callC, argC, lendO, nmBy, nmC, likeL, likeB, plainOb, offs, exL, X, F, trP, trO, stepD, stepW, newA, SV.tr, SV.trL, fz, allP, Ob.tr, loadA, cellsA, SV.cells, binA, binI, eqOut, isSl, isPt, natOf, callee, snap, SV.refsL, SV.refs, thaw, fzAll, loA, hiA, elemOf, partsA, buildA, putCells, ↓reduceIte, reduceCtorEq, okCell, Nat.reduceAdd, Nat.reduceEqDiff, Nat.reduceSub, Nat.reduceMul, Nat.reduceLeDiff, Nat.reduceLT, Nat.reduceBEq, PV.scal, PV.scalL, SV.scal, SV.scalL, Ob.scal, PV.isCell, pure', resO]
  refine loop_at (fun s : Nat × SV × SV × SV => mkEnv [(0, .p (.agg [.sl 1 (ints l), .int .i64 m])), (1, si q), (2, sb y), (3, .bx 3 0), (6, .bx 6 0), (7, .bx 7 0), (8, si s.1), (19, s.2.1), (33, s.2.2.1), (48, s.2.2.2)]) (fun s => mkO [(3, some (.box [.p (.sl 1 (ints l)), si m])), (6, some (.box [.p .nilsl, si 0])), (7, some (.box [.ar 11, si m])), (11, some (.arr 1 (ints (fillL (afterF f m l) l s.1))))]) (fun s => s.1 ≤ l.length) (fun s => l.length - s.1) (0, .junk, .junk, .junk) (by simp) rfl (by simp only [fill_0]) ?_
  rintro ⟨i, c1, c2, c3⟩ hi R hR hN
  simp only at hi
  have hfl := fill_len (afterF f m l) l hi
  by_cases h : i < l.length
  · have h1 : (i : Int) < l.length := by omega
    have hw := wrap_one (i := i) (by omega)
    have hg : (ints (fillL (afterF f m l) l i))[i]? = some (.int .i64 (l.getD i 0)) := by rw [ints_get (by omega), fill_get _ _ _ h]
    have hxs : l.getD i 0 ≤ 1000 := by
      have := List.all_eq_true.1 hsm (l.getD i 0) (by rw [getD_lt h]; exact List.getElem_mem h)
      simpa using this
    have hi0 : (0 : Int) ≤ i := by omega
    have hfi : ((bitW q i == 1) != y) = f i := by rw [← hf]
    by_cases hx0 : 0 ≤ l.getD i 0
    · cases hb : f i with
      | false =>
        rw [hb] at hfi
        have hs : fillL (afterF f m l) l (i + 1) = fillL (afterF f m l) l i := fill_same _ _ 0 h (by simp [afterF, hb])
        simp only [h1, hw, hg, hfl, h, hfi, hi0, hx0, h_l2False, c_l2False, ↓SP, SQ, Gam.add, stepM, callC, argC, lendO, nmBy, nmC, likeL, likeB, plainOb, offs, exL, X, F, trP, trO, stepD, stepW, newA, SV.tr, SV.trL, fz, allP, Ob.tr, loadA, cellsA, SV.cells, binA, binI, eqOut, isSl, isPt, natOf, callee, snap, SV.refsL, SV.refs, thaw, fzAll, loA, hiA, elemOf, partsA, buildA, putCells, ↓reduceIte, reduceCtorEq, okCell, Nat.reduceAdd, Nat.reduceEqDiff, Nat.reduceSub, Nat.reduceMul, Nat.reduceLeDiff, Nat.reduceLT, Nat.reduceBEq, PV.scal, PV.scalL, SV.scal, SV.scalL, Ob.scal, PV.isCell, pure', resO]
        rw [← hs]
        exact hN (i + 1, _, _, _) _ _ (by simp only; omega) (by simp only; omega) rfl rfl
      | true =>
        rw [hb] at hfi
        have hwx : IntKind.i64.wrap (l.getD i 0 + 1) = l.getD i 0 + 1 := wrap64 (by omega) (by omega)
        have hlt : i < (fillL (afterF f m l) l i).length := by omega
        have hg2 : (ints ((fillL (afterF f m l) l i).set i (l.getD i 0 + 1)))[i]? = some (.int .i64 (l.getD i 0 + 1)) := by
          rw [ints_get (by simpa using hlt), getD_lt (by simpa using hlt)]; simp
        by_cases hm1 : m < l.getD i 0 + 1
        · have hs : ((fillL (afterF f m l) l i).set i (l.getD i 0 + 1)).set i (-1) = fillL (afterF f m l) l (i + 1) := by
            rw [List.set_set]; exact fill_set _ _ h (by simp only [afterF, hx0, hb, hm1, and_self, if_true])
          simp only [h1, hw, hg, hfl, h, hfi, hi0, hx0, h_l2False, c_l2False, hwx, ints_set, hg2, hm1, List.length_set, hs, ↓SP, SQ, Gam.add, stepM, callC, argC, lendO, nmBy, nmC, likeL, likeB, plainOb, offs, exL, X, F, trP, trO, stepD, stepW, newA, SV.tr, SV.trL, fz, allP, Ob.tr, loadA, cellsA, SV.cells, binA, binI, eqOut, isSl, isPt, natOf, callee, snap, SV.refsL, SV.refs, thaw, fzAll, loA, hiA, elemOf, partsA, buildA, putCells, ↓reduceIte, reduceCtorEq, okCell, Nat.reduceAdd, Nat.reduceEqDiff, Nat.reduceSub, Nat.reduceMul, Nat.reduceLeDiff, Nat.reduceLT, Nat.reduceBEq, PV.scal, PV.scalL, SV.scal, SV.scalL, Ob.scal, PV.isCell, pure', resO]
          exact hN (i + 1, _, _, _) _ _ (by simp only; omega) (by simp only; omega) rfl rfl
        · have hs : (fillL (afterF f m l) l i).set i (l.getD i 0 + 1) = fillL (afterF f m l) l (i + 1) := fill_set _ _ h (by simp only [afterF, hx0, hb, hm1, and_self, if_true, if_false])
          rw [hs] at hg2
          have hfl2 := fill_len (afterF f m l) l (i := i + 1) (by omega)
          simp only [h1, hw, hg, hfl, h, hfi, hi0, hx0, h_l2False, c_l2False, hwx, ints_set, hg2, hm1, hs, hfl2, ↓SP, SQ, Gam.add, stepM, callC, argC, lendO, nmBy, nmC, likeL, likeB, plainOb, offs, exL, X, F, trP, trO, stepD, stepW, newA, SV.tr, SV.trL, fz, allP, Ob.tr, loadA, cellsA, SV.cells, binA, binI, eqOut, isSl, isPt, natOf, callee, snap, SV.refsL, SV.refs, thaw, fzAll, loA, hiA, elemOf, partsA, buildA, putCells, ↓reduceIte, reduceCtorEq, okCell, Nat.reduceAdd, Nat.reduceEqDiff, Nat.reduceSub, Nat.reduceMul, Nat.reduceLeDiff, Nat.reduceLT, Nat.reduceBEq, PV.scal, PV.scalL, SV.scal, SV.scalL, Ob.scal, PV.isCell, pure', resO]
          exact hN (i + 1, _, _, _) _ _ (by simp only; omega) (by simp only; omega) rfl rfl
    · have hs : fillL (afterF f m l) l (i + 1) = fillL (afterF f m l) l i := fill_same _ _ 0 h (by simp only [afterF, hx0, false_and, if_false])
      simp only [h1, hw, hg, hfl, h, hx0, ↓SP, SQ, Gam.add, stepM, callC, argC, lendO, nmBy, nmC, likeL, likeB, plainOb, offs, exL, X, F, trP, trO, stepD, stepW, newA, SV.tr, SV.trL, fz, allP, Ob.tr, loadA, cellsA, SV.cells, binA, binI, eqOut, isSl, isPt, natOf, callee, snap, SV.refsL, SV.refs, thaw, fzAll, loA, hiA, elemOf, partsA, buildA, putCells, ↓reduceIte, reduceCtorEq, okCell, Nat.reduceAdd, Nat.reduceEqDiff, Nat.reduceSub, Nat.reduceMul, Nat.reduceLeDiff, Nat.reduceLT, Nat.reduceBEq, PV.scal, PV.scalL, SV.scal, SV.scalL, Ob.scal, PV.isCell, pure', resO]
      rw [← hs]
      exact hN (i + 1, _, _, _) _ _ (by simp only; omega) (by simp only; omega) rfl rfl
  · have he : i = l.length := by omega
    have h1 : ¬ (i : Int) < l.length := by omega
    simp only [h1, hfl, ↓SP, SQ, Gam.add, stepM, callC, argC, lendO, nmBy, nmC, likeL, likeB, plainOb, offs, exL, X, F, trP, trO, stepD, stepW, newA, SV.tr, SV.trL, fz, allP, Ob.tr, loadA, cellsA, SV.cells, binA, binI, eqOut, isSl, isPt, natOf, callee, snap, SV.refsL, SV.refs, thaw, fzAll, loA, hiA, elemOf, partsA, buildA, putCells, ↓reduceIte, reduceCtorEq, okCell, Nat.reduceAdd, Nat.reduceEqDiff, Nat.reduceSub, Nat.reduceMul, Nat.reduceLeDiff, Nat.reduceLT, Nat.reduceBEq, PV.scal, PV.scalL, SV.scal, SV.scalL, Ob.scal, PV.isCell, pure', resO]
    refine hR _ _ _ (by intro h; cases h) ?_
    simp only [↓SP, SQ, Gam.add, stepM, callC, argC, lendO, nmBy, nmC, likeL, likeB, plainOb, offs, exL, X, F, trP, trO, stepD, stepW, newA, SV.tr, SV.trL, fz, allP, Ob.tr, loadA, cellsA, SV.cells, binA, binI, eqOut, isSl, isPt, natOf, callee, snap, SV.refsL, SV.refs, thaw, fzAll, loA, hiA, elemOf, partsA, buildA, putCells, ↓reduceIte, reduceCtorEq, okCell, Nat.reduceAdd, Nat.reduceEqDiff, Nat.reduceSub, Nat.reduceMul, Nat.reduceLeDiff, Nat.reduceLT, Nat.reduceBEq, PV.scal, PV.scalL, SV.scal, SV.scalL, Ob.scal, PV.isCell, pure', resO]
    subst he
    have hfe := fill_end (afterF f m l) l
    exact finA_gen [11] trivial (by simp [retA, rvA, List.mapM_cons, List.mapM_nil, Option.pure_def, Option.bind_eq_bind, Option.bind_some, Option.map_some, mkE_cons, mk_nil, mkO_cons, mkO_nil, loadA, ↓reduceIte, List.take_succ_cons, List.take_zero, List.drop_zero, List.drop_succ_cons, List.length_cons, List.length_nil, Nat.reduceAdd, Nat.reduceEqDiff, Nat.reduceLeDiff, Nat.zero_add, Nat.le_refl, reduceCtorEq, SV.tr, SV.trL, nmF, rn_nil, rn_cons1, rn_cons2, List.map_cons, List.map_nil, List.all_cons, List.all_nil, plainOb, SV.refsL, SV.refs, Ob.refs, X, F, List.range_succ, List.range_zero, List.nil_append, List.cons_append, List.isEmpty_nil, decide_true, Nat.reduceLT, Bool.and_self, Bool.and_true, and_self, and_true, List.getElem?_cons_zero, List.getElem?_cons_succ, List.nodup_cons, List.nodup_nil, List.mem_cons, List.not_mem_nil, not_false_eq_true, or_false, List.append_nil, mkO, setO_mk, List.mem_singleton]; rfl) (by simp [hfe, afterL, retA, rvA, List.mapM_cons, List.mapM_nil, Option.pure_def, Option.bind_eq_bind, Option.bind_some, Option.map_some, mkE_cons, mk_nil, mkO_cons, mkO_nil, loadA, ↓reduceIte, List.take_succ_cons, List.take_zero, List.drop_zero, List.drop_succ_cons, List.length_cons, List.length_nil, Nat.reduceAdd, Nat.reduceEqDiff, Nat.reduceLeDiff, Nat.zero_add, Nat.le_refl, reduceCtorEq, SV.tr, SV.trL, nmF, rn_nil, rn_cons1, rn_cons2, List.map_cons, List.map_nil, List.all_cons, List.all_nil, plainOb, SV.refsL, SV.refs, Ob.refs, X, F, List.range_succ, List.range_zero, List.nil_append, List.cons_append, List.isEmpty_nil, decide_true, Nat.reduceLT, Bool.and_self, Bool.and_true, and_self, and_true, List.getElem?_cons_zero, List.getElem?_cons_succ, List.nodup_cons, List.nodup_nil, List.mem_cons, List.not_mem_nil, not_false_eq_true, or_false, List.append_nil, mkO, setO_mk, List.mem_singleton]) (by simp [hfe, afterL, retA, rvA, List.mapM_cons, List.mapM_nil, Option.pure_def, Option.bind_eq_bind, Option.bind_some, Option.map_some, mkE_cons, mk_nil, mkO_cons, mkO_nil, loadA, ↓reduceIte, List.take_succ_cons, List.take_zero, List.drop_zero, List.drop_succ_cons, List.length_cons, List.length_nil, Nat.reduceAdd, Nat.reduceEqDiff, Nat.reduceLeDiff, Nat.zero_add, Nat.le_refl, reduceCtorEq, SV.tr, SV.trL, nmF, rn_nil, rn_cons1, rn_cons2, List.map_cons, List.map_nil, List.all_cons, List.all_nil, plainOb, SV.refsL, SV.refs, Ob.refs, X, F, List.range_succ, List.range_zero, List.nil_append, List.cons_append, List.isEmpty_nil, decide_true, Nat.reduceLT, Bool.and_self, Bool.and_true, and_self, and_true, List.getElem?_cons_zero, List.getElem?_cons_succ, List.nodup_cons, List.nodup_nil, List.mem_cons, List.not_mem_nil, not_false_eq_true, or_false, List.append_nil, mkO, setO_mk, List.mem_singleton]) (by simp) (by simp) (by simp [retA, rvA, List.mapM_cons, List.mapM_nil, Option.pure_def, Option.bind_eq_bind, Option.bind_some, Option.map_some, mkE_cons, mk_nil, mkO_cons, mkO_nil, loadA, ↓reduceIte, List.take_succ_cons, List.take_zero, List.drop_zero, List.drop_succ_cons, List.length_cons, List.length_nil, Nat.reduceAdd, Nat.reduceEqDiff, Nat.reduceLeDiff, Nat.zero_add, Nat.le_refl, reduceCtorEq, SV.tr, SV.trL, nmF, rn_nil, rn_cons1, rn_cons2, List.map_cons, List.map_nil, List.all_cons, List.all_nil, plainOb, SV.refsL, SV.refs, Ob.refs, X, F, List.range_succ, List.range_zero, List.nil_append, List.cons_append, List.isEmpty_nil, decide_true, Nat.reduceLT, Bool.and_self, Bool.and_true, and_self, and_true, List.getElem?_cons_zero, List.getElem?_cons_succ, List.nodup_cons, List.nodup_nil, List.mem_cons, List.not_mem_nil, not_false_eq_true, or_false, List.append_nil, mkO, setO_mk, List.mem_singleton]) (by simp [hfe, afterL, retA, rvA, List.mapM_cons, List.mapM_nil, Option.pure_def, Option.bind_eq_bind, Option.bind_some, Option.map_some, mkE_cons, mk_nil, mkO_cons, mkO_nil, loadA, ↓reduceIte, List.take_succ_cons, List.take_zero, List.drop_zero, List.drop_succ_cons, List.length_cons, List.length_nil, Nat.reduceAdd, Nat.reduceEqDiff, Nat.reduceLeDiff, Nat.zero_add, Nat.le_refl, reduceCtorEq, SV.tr, SV.trL, nmF, rn_nil, rn_cons1, rn_cons2, List.map_cons, List.map_nil, List.all_cons, List.all_nil, plainOb, SV.refsL, SV.refs, Ob.refs, X, F, List.range_succ, List.range_zero, List.nil_append, List.cons_append, List.isEmpty_nil, decide_true, Nat.reduceLT, Bool.and_self, Bool.and_true, and_self, and_true, List.getElem?_cons_zero, List.getElem?_cons_succ, List.nodup_cons, List.nodup_nil, List.mem_cons, List.not_mem_nil, not_false_eq_true, or_false, List.append_nil, mkO, setO_mk, List.mem_singleton]) (by simp [hfe, afterL, retA, rvA, List.mapM_cons, List.mapM_nil, Option.pure_def, Option.bind_eq_bind, Option.bind_some, Option.map_some, mkE_cons, mk_nil, mkO_cons, mkO_nil, loadA, ↓reduceIte, List.take_succ_cons, List.take_zero, List.drop_zero, List.drop_succ_cons, List.length_cons, List.length_nil, Nat.reduceAdd, Nat.reduceEqDiff, Nat.reduceLeDiff, Nat.zero_add, Nat.le_refl, reduceCtorEq, SV.tr, SV.trL, nmF, rn_nil, rn_cons1, rn_cons2, List.map_cons, List.map_nil, List.all_cons, List.all_nil, plainOb, SV.refsL, SV.refs, Ob.refs, X, F, List.range_succ, List.range_zero, List.nil_append, List.cons_append, List.isEmpty_nil, decide_true, Nat.reduceLT, Bool.and_self, Bool.and_true, and_self, and_true, List.getElem?_cons_zero, List.getElem?_cons_succ, List.nodup_cons, List.nodup_nil, List.mem_cons, List.not_mem_nil, not_false_eq_true, or_false, List.append_nil, mkO, setO_mk, List.mem_singleton])
theorem afterL_congr {f g : Nat → Bool} {m : Int} {l : List Int} (h : ∀ i, i < l.length → f i = g i) : afterL f m l = afterL g m l :=
  List.map_congr_left fun i hi => by simp only [afterF, h i (List.mem_range.1 hi)]
theorem upto_map (n : Nat) : upto n = (List.range n).map fun i : Nat => PV.int .i64 (i : Int) := by simp [upto, ints]
theorem map_getD {n i : Nat} (f : Nat → Bool) (h : i < n) : ((List.range n).map f).getD i false = f i := by simp [h]
def a_answered (f_isFalse : FuncId) (f_after : FuncId) : AFn := ⟨2, 
  .seq (.reg [⟨some 2, none, .w (.box 2 (.t 0))⟩,
    ⟨some 3, none, .w (.box 2 (.t 1))⟩,
    ⟨some 4, none, .w (.alloc [.nilsl, .int .i64 0])⟩])
  (.seq (.reg [⟨some 5, none, .d (.load true 2 (.t 2))⟩,
    ⟨some 6, none, .d (.load true 2 (.t 3))⟩,
    ⟨some 7, none, .d (.mkfn f_isFalse [(.t 6)] [])⟩,
    ⟨some 8, none, .w (.callL (.f f_after) [(.t 5), (.t 7)] [] 1 false)⟩,
    ⟨none, none, .w (.store 2 (.t 4) (.t 8))⟩])
  (.ret)), [.cell 4 2 true]⟩
def n_answered : Nat → Option Ann := fun d => if d = 8 then some ⟨[], 1, false⟩ else none
abbrev k_answered : List Nat := [0, 1, 2, 3, 4]
abbrev o_answered : List Nat := [2, 3, 4, 8]
def c_answered : Con := pure' fun
  | [.p (.agg [.sl 1 l_, .int .i64 m]), .p (.agg [.int .i64 q, .bool y])] => if isI l_ = true ∧ ((ofI l_).length ≤ 1100000 ∧ ((ofI l_).all fun x => decide (x ≤ 1000)) = true) then some (.ag [.ar 2000000, .p (.int .i64 m)], [.arr 1 (ints (afterL (fun i => (bitW q i == 1) != y) m (ofI l_)))]) else none
  | _ => none
theorem s_answered {P : Program} (hm : P.follows .mixedOrders = true) {Γ : Gam} (hΓ : GS P Γ) {n : FuncId} {f_isFalse : FuncId} {f_after : FuncId} (is : Is P n (a_answered f_isFalse f_after)) {Γ0 : Gam} (h_after : Γ f_after = c_after Γ0) (h_isFalse : Γ0 f_isFalse = c_isFalse) : Says P n c_answered := by
  refine Says.pure fun args r fs h => ?_
  split at h
  case h_2 => cases h
  rename_i l_ m q y
  split at h
  case isFalse => cases h
  rename_i hc
  obtain ⟨hl_, hc⟩ := hc
  obtain ⟨l, rfl⟩ := isI_out hl_
  simp only [ofI_ints, ofBo_bools, ofAs_asks, Option.some.injEq, Prod.mk.injEq] at h hc
  obtain ⟨rfl, rfl⟩ := h
  have hask : askF Γ0 f_isFalse [.agg [.int .i64 q, .bool y]] [] (upto l.length) = some ((List.range l.length).map fun i : Nat => (bitW q i == 1) != y) := by
    rw [upto_map]
    exact askF_eq fun i _ => by
      rw [h_isFalse]
      simp [c_isFalse, pure']
  have hcg : afterL (fun i => ((List.range l.length).map fun i : Nat => (bitW q i == 1) != y).getD i false) m l = afterL (fun i => (bitW q i == 1) != y) m l := afterL_congr fun i hi => map_getD _ hi
  refine is.go hm hΓ k_answered o_answered (by simp [a_answered]) ?_
  simp only [a_answered, h_after, c_after, hc, hask, hcg, List.zipIdx_cons, List.zipIdx_nil, ↓SP, SQ, Gam.add, stepM, callC, argC, lendO, nmBy, nmC, likeL, likeB, plainOb, offs, exL, X, F, trP, trO, stepD, stepW, newA, SV.tr, SV.trL, fz, allP, Ob.tr, loadA, cellsA, SV.cells, binA, binI, eqOut, isSl, isPt, natOf, callee, snap, SV.refsL, SV.refs, thaw, fzAll, loA, hiA, elemOf, partsA, buildA, putCells, ↓reduceIte, reduceCtorEq, okCell, Nat.reduceAdd, Nat.reduceEqDiff, Nat.reduceSub, Nat.reduceMul, Nat.reduceLeDiff, Nat.reduceLT, Nat.reduceBEq, PV.scal, PV.scalL, SV.scal, SV.scalL, Ob.scal, PV.isCell, pure', resO]
  exact finA_gen [8] trivial (by simp [retA, rvA, List.mapM_cons, List.mapM_nil, Option.pure_def, Option.bind_eq_bind, Option.bind_some, Option.map_some, mkE_cons, mk_nil, mkO_cons, mkO_nil, loadA, ↓reduceIte, List.take_succ_cons, List.take_zero, List.drop_zero, List.drop_succ_cons, List.length_cons, List.length_nil, Nat.reduceAdd, Nat.reduceEqDiff, Nat.reduceLeDiff, Nat.zero_add, Nat.le_refl, reduceCtorEq, SV.tr, SV.trL, nmF, rn_nil, rn_cons1, rn_cons2, List.map_cons, List.map_nil, List.all_cons, List.all_nil, plainOb, SV.refsL, SV.refs, Ob.refs, X, F, List.range_succ, List.range_zero, List.nil_append, List.cons_append, List.isEmpty_nil, decide_true, Nat.reduceLT, Bool.and_self, Bool.and_true, and_self, and_true, List.getElem?_cons_zero, List.getElem?_cons_succ, List.nodup_cons, List.nodup_nil, List.mem_cons, List.not_mem_nil, not_false_eq_true, or_false, List.append_nil, mkO, setO_mk, List.mem_singleton]; rfl) (by simp [retA, rvA, List.mapM_cons, List.mapM_nil, Option.pure_def, Option.bind_eq_bind, Option.bind_some, Option.map_some, mkE_cons, mk_nil, mkO_cons, mkO_nil, loadA, ↓reduceIte, List.take_succ_cons, List.take_zero, List.drop_zero, List.drop_succ_cons, List.length_cons, List.length_nil, Nat.reduceAdd, Nat.reduceEqDiff, Nat.reduceLeDiff, Nat.zero_add, Nat.le_refl, reduceCtorEq, SV.tr, SV.trL, nmF, rn_nil, rn_cons1, rn_cons2, List.map_cons, List.map_nil, List.all_cons, List.all_nil, plainOb, SV.refsL, SV.refs, Ob.refs, X, F, List.range_succ, List.range_zero, List.nil_append, List.cons_append, List.isEmpty_nil, decide_true, Nat.reduceLT, Bool.and_self, Bool.and_true, and_self, and_true, List.getElem?_cons_zero, List.getElem?_cons_succ, List.nodup_cons, List.nodup_nil, List.mem_cons, List.not_mem_nil, not_false_eq_true, or_false, List.append_nil, mkO, setO_mk, List.mem_singleton]) (by simp [retA, rvA, List.mapM_cons, List.mapM_nil, Option.pure_def, Option.bind_eq_bind, Option.bind_some, Option.map_some, mkE_cons, mk_nil, mkO_cons, mkO_nil, loadA, ↓reduceIte, List.take_succ_cons, List.take_zero, List.drop_zero, List.drop_succ_cons, List.length_cons, List.length_nil, Nat.reduceAdd, Nat.reduceEqDiff, Nat.reduceLeDiff, Nat.zero_add, Nat.le_refl, reduceCtorEq, SV.tr, SV.trL, nmF, rn_nil, rn_cons1, rn_cons2, List.map_cons, List.map_nil, List.all_cons, List.all_nil, plainOb, SV.refsL, SV.refs, Ob.refs, X, F, List.range_succ, List.range_zero, List.nil_append, List.cons_append, List.isEmpty_nil, decide_true, Nat.reduceLT, Bool.and_self, Bool.and_true, and_self, and_true, List.getElem?_cons_zero, List.getElem?_cons_succ, List.nodup_cons, List.nodup_nil, List.mem_cons, List.not_mem_nil, not_false_eq_true, or_false, List.append_nil, mkO, setO_mk, List.mem_singleton]) (by simp) (by simp) (by simp [retA, rvA, List.mapM_cons, List.mapM_nil, Option.pure_def, Option.bind_eq_bind, Option.bind_some, Option.map_some, mkE_cons, mk_nil, mkO_cons, mkO_nil, loadA, ↓reduceIte, List.take_succ_cons, List.take_zero, List.drop_zero, List.drop_succ_cons, List.length_cons, List.length_nil, Nat.reduceAdd, Nat.reduceEqDiff, Nat.reduceLeDiff, Nat.zero_add, Nat.le_refl, reduceCtorEq, SV.tr, SV.trL, nmF, rn_nil, rn_cons1, rn_cons2, List.map_cons, List.map_nil, List.all_cons, List.all_nil, plainOb, SV.refsL, SV.refs, Ob.refs, X, F, List.range_succ, List.range_zero, List.nil_append, List.cons_append, List.isEmpty_nil, decide_true, Nat.reduceLT, Bool.and_self, Bool.and_true, and_self, and_true, List.getElem?_cons_zero, List.getElem?_cons_succ, List.nodup_cons, List.nodup_nil, List.mem_cons, List.not_mem_nil, not_false_eq_true, or_false, List.append_nil, mkO, setO_mk, List.mem_singleton]) (by simp [retA, rvA, List.mapM_cons, List.mapM_nil, Option.pure_def, Option.bind_eq_bind, Option.bind_some, Option.map_some, mkE_cons, mk_nil, mkO_cons, mkO_nil, loadA, ↓reduceIte, List.take_succ_cons, List.take_zero, List.drop_zero, List.drop_succ_cons, List.length_cons, List.length_nil, Nat.reduceAdd, Nat.reduceEqDiff, Nat.reduceLeDiff, Nat.zero_add, Nat.le_refl, reduceCtorEq, SV.tr, SV.trL, nmF, rn_nil, rn_cons1, rn_cons2, List.map_cons, List.map_nil, List.all_cons, List.all_nil, plainOb, SV.refsL, SV.refs, Ob.refs, X, F, List.range_succ, List.range_zero, List.nil_append, List.cons_append, List.isEmpty_nil, decide_true, Nat.reduceLT, Bool.and_self, Bool.and_true, and_self, and_true, List.getElem?_cons_zero, List.getElem?_cons_succ, List.nodup_cons, List.nodup_nil, List.mem_cons, List.not_mem_nil, not_false_eq_true, or_false, List.append_nil, mkO, setO_mk, List.mem_singleton]) (by simp [retA, rvA, List.mapM_cons, List.mapM_nil, Option.pure_def, Option.bind_eq_bind, Option.bind_some, Option.map_some, mkE_cons, mk_nil, mkO_cons, mkO_nil, loadA, ↓reduceIte, List.take_succ_cons, List.take_zero, List.drop_zero, List.drop_succ_cons, List.length_cons, List.length_nil, Nat.reduceAdd, Nat.reduceEqDiff, Nat.reduceLeDiff, Nat.zero_add, Nat.le_refl, reduceCtorEq, SV.tr, SV.trL, nmF, rn_nil, rn_cons1, rn_cons2, List.map_cons, List.map_nil, List.all_cons, List.all_nil, plainOb, SV.refsL, SV.refs, Ob.refs, X, F, List.range_succ, List.range_zero, List.nil_append, List.cons_append, List.isEmpty_nil, decide_true, Nat.reduceLT, Bool.and_self, Bool.and_true, and_self, and_true, List.getElem?_cons_zero, List.getElem?_cons_succ, List.nodup_cons, List.nodup_nil, List.mem_cons, List.not_mem_nil, not_false_eq_true, or_false, List.append_nil, mkO, setO_mk, List.mem_singleton])
def a_start : AFn := ⟨2, 
  .seq (.reg [⟨some 4, none, .w (.alloc [.nilsl, .int .i64 0])⟩])
  (.seq (.reg [⟨some 5, none, .d (.mv (.t 0))⟩,
    ⟨some 6, none, .w (.mkslice 1 (.int .i64 0) (.t 5))⟩,
    ⟨some 7, none, .d (.mv (.t 1))⟩,
    ⟨some 8, none, .d (.build [.nilsl, .int .i64 0] [(0, 1, (.t 6)), (1, 1, (.t 7))])⟩,
    ⟨none, none, .w (.store 2 (.t 4) (.t 8))⟩])
  (.ret)), [.cell 4 2 true]⟩
def n_start : Nat → Option Ann := fun _ => none
abbrev k_start : List Nat := [0, 1, 4]
abbrev o_start : List Nat := [4, 6]
def c_start : Con := pure' fun
  | [.p (.int .i64 n), .p (.int .i64 m)] => if (0 ≤ n ∧ n ≤ 1100000) then some (.ag [.ar 2000000, .p (.int .i64 m)], [.arr 1 (ints (List.replicate n.toNat 0))]) else none
  | _ => none
theorem s_start {P : Program} (hm : P.follows .mixedOrders = true) {Γ : Gam} (hΓ : GS P Γ) {n : FuncId} (is : Is P n a_start)  : Says P n c_start := by
  refine Says.pure fun args r fs h => ?_
  split at h
  case h_2 => cases h
  rename_i n m
  split at h
  case isFalse => cases h
  rename_i hc
  simp only [ofI_ints, ofBo_bools, ofAs_asks, Option.some.injEq, Prod.mk.injEq] at h hc
  obtain ⟨rfl, rfl⟩ := h
  have hr : n.toNat ≤ roomA := by unfold roomA; omega
  refine is.go hm hΓ k_start o_start (by simp [a_start]) ?_
  simp only [a_start, hc, hr, List.zipIdx_cons, List.zipIdx_nil, ↓SP, SQ, Gam.add, stepM, callC, argC, lendO, nmBy, nmC, likeL, likeB, plainOb, offs, exL, X, F, trP, trO, stepD, stepW, newA, SV.tr, SV.trL, fz, allP, Ob.tr, loadA, cellsA, SV.cells, binA, binI, eqOut, isSl, isPt, natOf, callee, snap, SV.refsL, SV.refs, thaw, fzAll, loA, hiA, elemOf, partsA, buildA, putCells, ↓reduceIte, reduceCtorEq, okCell, Nat.reduceAdd, Nat.reduceEqDiff, Nat.reduceSub, Nat.reduceMul, Nat.reduceLeDiff, Nat.reduceLT, Nat.reduceBEq, PV.scal, PV.scalL, SV.scal, SV.scalL, Ob.scal, PV.isCell, pure', resO]
  exact finA_gen [6] trivial (by simp [retA, rvA, List.mapM_cons, List.mapM_nil, Option.pure_def, Option.bind_eq_bind, Option.bind_some, Option.map_some, mkE_cons, mk_nil, mkO_cons, mkO_nil, loadA, ↓reduceIte, List.take_succ_cons, List.take_zero, List.drop_zero, List.drop_succ_cons, List.length_cons, List.length_nil, Nat.reduceAdd, Nat.reduceEqDiff, Nat.reduceLeDiff, Nat.zero_add, Nat.le_refl, reduceCtorEq, SV.tr, SV.trL, nmF, rn_nil, rn_cons1, rn_cons2, List.map_cons, List.map_nil, List.all_cons, List.all_nil, plainOb, SV.refsL, SV.refs, Ob.refs, X, F, List.range_succ, List.range_zero, List.nil_append, List.cons_append, List.isEmpty_nil, decide_true, Nat.reduceLT, Bool.and_self, Bool.and_true, and_self, and_true, List.getElem?_cons_zero, List.getElem?_cons_succ, List.nodup_cons, List.nodup_nil, List.mem_cons, List.not_mem_nil, not_false_eq_true, or_false, List.append_nil, mkO, setO_mk, List.mem_singleton]; rfl) (by simp [ints, retA, rvA, List.mapM_cons, List.mapM_nil, Option.pure_def, Option.bind_eq_bind, Option.bind_some, Option.map_some, mkE_cons, mk_nil, mkO_cons, mkO_nil, loadA, ↓reduceIte, List.take_succ_cons, List.take_zero, List.drop_zero, List.drop_succ_cons, List.length_cons, List.length_nil, Nat.reduceAdd, Nat.reduceEqDiff, Nat.reduceLeDiff, Nat.zero_add, Nat.le_refl, reduceCtorEq, SV.tr, SV.trL, nmF, rn_nil, rn_cons1, rn_cons2, List.map_cons, List.map_nil, List.all_cons, List.all_nil, plainOb, SV.refsL, SV.refs, Ob.refs, X, F, List.range_succ, List.range_zero, List.nil_append, List.cons_append, List.isEmpty_nil, decide_true, Nat.reduceLT, Bool.and_self, Bool.and_true, and_self, and_true, List.getElem?_cons_zero, List.getElem?_cons_succ, List.nodup_cons, List.nodup_nil, List.mem_cons, List.not_mem_nil, not_false_eq_true, or_false, List.append_nil, mkO, setO_mk, List.mem_singleton]) (by simp [ints, retA, rvA, List.mapM_cons, List.mapM_nil, Option.pure_def, Option.bind_eq_bind, Option.bind_some, Option.map_some, mkE_cons, mk_nil, mkO_cons, mkO_nil, loadA, ↓reduceIte, List.take_succ_cons, List.take_zero, List.drop_zero, List.drop_succ_cons, List.length_cons, List.length_nil, Nat.reduceAdd, Nat.reduceEqDiff, Nat.reduceLeDiff, Nat.zero_add, Nat.le_refl, reduceCtorEq, SV.tr, SV.trL, nmF, rn_nil, rn_cons1, rn_cons2, List.map_cons, List.map_nil, List.all_cons, List.all_nil, plainOb, SV.refsL, SV.refs, Ob.refs, X, F, List.range_succ, List.range_zero, List.nil_append, List.cons_append, List.isEmpty_nil, decide_true, Nat.reduceLT, Bool.and_self, Bool.and_true, and_self, and_true, List.getElem?_cons_zero, List.getElem?_cons_succ, List.nodup_cons, List.nodup_nil, List.mem_cons, List.not_mem_nil, not_false_eq_true, or_false, List.append_nil, mkO, setO_mk, List.mem_singleton]) (by simp) (by simp) (by simp [retA, rvA, List.mapM_cons, List.mapM_nil, Option.pure_def, Option.bind_eq_bind, Option.bind_some, Option.map_some, mkE_cons, mk_nil, mkO_cons, mkO_nil, loadA, ↓reduceIte, List.take_succ_cons, List.take_zero, List.drop_zero, List.drop_succ_cons, List.length_cons, List.length_nil, Nat.reduceAdd, Nat.reduceEqDiff, Nat.reduceLeDiff, Nat.zero_add, Nat.le_refl, reduceCtorEq, SV.tr, SV.trL, nmF, rn_nil, rn_cons1, rn_cons2, List.map_cons, List.map_nil, List.all_cons, List.all_nil, plainOb, SV.refsL, SV.refs, Ob.refs, X, F, List.range_succ, List.range_zero, List.nil_append, List.cons_append, List.isEmpty_nil, decide_true, Nat.reduceLT, Bool.and_self, Bool.and_true, and_self, and_true, List.getElem?_cons_zero, List.getElem?_cons_succ, List.nodup_cons, List.nodup_nil, List.mem_cons, List.not_mem_nil, not_false_eq_true, or_false, List.append_nil, mkO, setO_mk, List.mem_singleton]) (by simp [ints, retA, rvA, List.mapM_cons, List.mapM_nil, Option.pure_def, Option.bind_eq_bind, Option.bind_some, Option.map_some, mkE_cons, mk_nil, mkO_cons, mkO_nil, loadA, ↓reduceIte, List.take_succ_cons, List.take_zero, List.drop_zero, List.drop_succ_cons, List.length_cons, List.length_nil, Nat.reduceAdd, Nat.reduceEqDiff, Nat.reduceLeDiff, Nat.zero_add, Nat.le_refl, reduceCtorEq, SV.tr, SV.trL, nmF, rn_nil, rn_cons1, rn_cons2, List.map_cons, List.map_nil, List.all_cons, List.all_nil, plainOb, SV.refsL, SV.refs, Ob.refs, X, F, List.range_succ, List.range_zero, List.nil_append, List.cons_append, List.isEmpty_nil, decide_true, Nat.reduceLT, Bool.and_self, Bool.and_true, and_self, and_true, List.getElem?_cons_zero, List.getElem?_cons_succ, List.nodup_cons, List.nodup_nil, List.mem_cons, List.not_mem_nil, not_false_eq_true, or_false, List.append_nil, mkO, setO_mk, List.mem_singleton]) (by simp [ints, retA, rvA, List.mapM_cons, List.mapM_nil, Option.pure_def, Option.bind_eq_bind, Option.bind_some, Option.map_some, mkE_cons, mk_nil, mkO_cons, mkO_nil, loadA, ↓reduceIte, List.take_succ_cons, List.take_zero, List.drop_zero, List.drop_succ_cons, List.length_cons, List.length_nil, Nat.reduceAdd, Nat.reduceEqDiff, Nat.reduceLeDiff, Nat.zero_add, Nat.le_refl, reduceCtorEq, SV.tr, SV.trL, nmF, rn_nil, rn_cons1, rn_cons2, List.map_cons, List.map_nil, List.all_cons, List.all_nil, plainOb, SV.refsL, SV.refs, Ob.refs, X, F, List.range_succ, List.range_zero, List.nil_append, List.cons_append, List.isEmpty_nil, decide_true, Nat.reduceLT, Bool.and_self, Bool.and_true, and_self, and_true, List.getElem?_cons_zero, List.getElem?_cons_succ, List.nodup_cons, List.nodup_nil, List.mem_cons, List.not_mem_nil, not_false_eq_true, or_false, List.append_nil, mkO, setO_mk, List.mem_singleton])
theorem slI_lenP {v : PV} {l : List Int} (h : slI v = some l) : lenP v = some l.length := by
  rcases slI_out h with rfl | ⟨rfl, rfl⟩ <;> simp [lenP, ints_len]
def a_eqAsked : AFn := ⟨2, 
  .seq (.reg [⟨some 2, none, .w (.box 2 (.t 0))⟩,
    ⟨some 3, none, .w (.box 2 (.t 1))⟩,
    ⟨some 4, none, .d (.mv (.c (.bool false)))⟩])
  (.seq (.seq (.reg [⟨some 5, none, .d (.fa 0 (.t 2))⟩,
    ⟨some 6, none, .d (.load false 1 (.t 5))⟩,
    ⟨some 7, none, .d (.fa 0 (.t 3))⟩,
    ⟨some 8, none, .d (.load false 1 (.t 7))⟩,
    ⟨some 9, none, .d (.bin .arith .neq (.t 6) (.t 8))⟩])
  (.cond (.t 9) (.seq (.reg [⟨some 4, none, .d (.mv (.c (.bool false)))⟩])
   (.ret)) (.skip)))
  (.seq (.seq (.reg [⟨some 10, none, .d (.fa 1 (.t 2))⟩,
    ⟨some 11, none, .d (.load false 1 (.t 10))⟩,
    ⟨some 12, none, .d (.fa 1 (.t 3))⟩,
    ⟨some 13, none, .d (.load false 1 (.t 12))⟩,
    ⟨some 14, none, .d (.bin .bool .neq (.t 11) (.t 13))⟩])
  (.cond (.t 14) (.seq (.reg [⟨some 4, none, .d (.mv (.c (.bool false)))⟩])
   (.ret)) (.skip)))
  (.seq (.reg [⟨some 4, none, .d (.mv (.c (.bool true)))⟩])
  (.ret)))), [.tmp 4]⟩
def n_eqAsked : Nat → Option Ann := fun _ => none
abbrev k_eqAsked : List Nat := [0, 1, 2, 3, 4, 9, 14]
abbrev o_eqAsked : List Nat := [2, 3]
def c_eqAsked : Con := pure' fun
  | [.p (.agg [.int .i64 a, .bool x]), .p (.agg [.int .i64 b, .bool y])] => if (True) then some (.p (.bool (decide (a = b) && decide (x = y))), []) else none
  | _ => none
theorem s_eqAsked {P : Program} (hm : P.follows .mixedOrders = true) {Γ : Gam} (hΓ : GS P Γ) {n : FuncId} (is : Is P n a_eqAsked)  : Says P n c_eqAsked := by
  refine Says.pure fun args r fs h => ?_
  split at h
  case h_2 => cases h
  rename_i a x b y
  split at h
  case isFalse => cases h
  rename_i hc
  simp only [ofI_ints, ofBo_bools, ofAs_asks, Option.some.injEq, Prod.mk.injEq] at h hc
  obtain ⟨rfl, rfl⟩ := h
  by_cases h1 : a = b
  · have d1 : decide (a = b) = true := by simpa using h1
    have e1 : (a != b) = false := by rw [h1]; exact bne_self_eq_false _
    by_cases h2 : x = y
    · have d2 : decide (x = y) = true := by simpa using h2
      have e2 : (x == y) = true := by rw [h2]; exact beq_self_eq_true _
      refine is.go hm hΓ k_eqAsked o_eqAsked (by simp [a_eqAsked]) ?_
      simp only [a_eqAsked, e1, e2, d1, d2, Bool.not_true, Bool.not_false, List.zipIdx_cons, List.zipIdx_nil, ↓SP, SQ, Gam.add, stepM, callC, argC, lendO, nmBy, nmC, likeL, likeB, plainOb, offs, exL, X, F, trP, trO, stepD, stepW, newA, SV.tr, SV.trL, fz, allP, Ob.tr, loadA, cellsA, SV.cells, binA, binI, eqOut, isSl, isPt, natOf, callee, snap, SV.refsL, SV.refs, thaw, fzAll, loA, hiA, elemOf, partsA, buildA, putCells, ↓reduceIte, reduceCtorEq, okCell, Nat.reduceAdd, Nat.reduceEqDiff, Nat.reduceSub, Nat.reduceMul, Nat.reduceLeDiff, Nat.reduceLT, Nat.reduceBEq, PV.scal, PV.scalL, SV.scal, SV.scalL, Ob.scal, PV.isCell, pure', resO]
      exact finA_val (by simp [retA, rvA, List.mapM_cons, List.mapM_nil, Option.pure_def, Option.bind_eq_bind, Option.bind_some, Option.map_some, mkE_cons, mk_nil, mkO_cons, mkO_nil, loadA, ↓reduceIte, List.take_succ_cons, List.take_zero, List.drop_zero, List.drop_succ_cons, List.length_cons, List.length_nil, Nat.reduceAdd, Nat.reduceEqDiff, Nat.reduceLeDiff, Nat.zero_add, Nat.le_refl, reduceCtorEq, SV.tr, SV.trL, nmF, rn_nil, rn_cons1, rn_cons2, List.map_cons, List.map_nil, List.all_cons, List.all_nil, plainOb, SV.refsL, SV.refs, Ob.refs, X, F, List.range_succ, List.range_zero, List.nil_append, List.cons_append, List.isEmpty_nil, decide_true, Nat.reduceLT, Bool.and_self, Bool.and_true, and_self, and_true, List.getElem?_cons_zero, List.getElem?_cons_succ, List.nodup_cons, List.nodup_nil, List.mem_cons, List.not_mem_nil, not_false_eq_true, or_false, List.append_nil, mkO, setO_mk, List.mem_singleton]) (by simp [SV.tr, SV.trL])
    · have d2 : decide (x = y) = false := by simpa using h2
      have e2 : (x == y) = false := by simpa using h2
      refine is.go hm hΓ k_eqAsked o_eqAsked (by simp [a_eqAsked]) ?_
      simp only [a_eqAsked, e1, e2, d1, d2, Bool.not_true, Bool.not_false, List.zipIdx_cons, List.zipIdx_nil, ↓SP, SQ, Gam.add, stepM, callC, argC, lendO, nmBy, nmC, likeL, likeB, plainOb, offs, exL, X, F, trP, trO, stepD, stepW, newA, SV.tr, SV.trL, fz, allP, Ob.tr, loadA, cellsA, SV.cells, binA, binI, eqOut, isSl, isPt, natOf, callee, snap, SV.refsL, SV.refs, thaw, fzAll, loA, hiA, elemOf, partsA, buildA, putCells, ↓reduceIte, reduceCtorEq, okCell, Nat.reduceAdd, Nat.reduceEqDiff, Nat.reduceSub, Nat.reduceMul, Nat.reduceLeDiff, Nat.reduceLT, Nat.reduceBEq, PV.scal, PV.scalL, SV.scal, SV.scalL, Ob.scal, PV.isCell, pure', resO]
      exact finA_val (by simp [retA, rvA, List.mapM_cons, List.mapM_nil, Option.pure_def, Option.bind_eq_bind, Option.bind_some, Option.map_some, mkE_cons, mk_nil, mkO_cons, mkO_nil, loadA, ↓reduceIte, List.take_succ_cons, List.take_zero, List.drop_zero, List.drop_succ_cons, List.length_cons, List.length_nil, Nat.reduceAdd, Nat.reduceEqDiff, Nat.reduceLeDiff, Nat.zero_add, Nat.le_refl, reduceCtorEq, SV.tr, SV.trL, nmF, rn_nil, rn_cons1, rn_cons2, List.map_cons, List.map_nil, List.all_cons, List.all_nil, plainOb, SV.refsL, SV.refs, Ob.refs, X, F, List.range_succ, List.range_zero, List.nil_append, List.cons_append, List.isEmpty_nil, decide_true, Nat.reduceLT, Bool.and_self, Bool.and_true, and_self, and_true, List.getElem?_cons_zero, List.getElem?_cons_succ, List.nodup_cons, List.nodup_nil, List.mem_cons, List.not_mem_nil, not_false_eq_true, or_false, List.append_nil, mkO, setO_mk, List.mem_singleton]) (by simp [SV.tr, SV.trL])
  · have d1 : decide (a = b) = false := by simpa using h1
    have e1 : (a != b) = true := bne_iff_ne.2 h1
    refine is.go hm hΓ k_eqAsked o_eqAsked (by simp [a_eqAsked]) ?_
    simp only [a_eqAsked, e1, d1, List.zipIdx_cons, List.zipIdx_nil, ↓SP, SQ, Gam.add, stepM, callC, argC, lendO, nmBy, nmC, likeL, likeB, plainOb, offs, exL, X, F, trP, trO, stepD, stepW, newA, SV.tr, SV.trL, fz, allP, Ob.tr, loadA, cellsA, SV.cells, binA, binI, eqOut, isSl, isPt, natOf, callee, snap, SV.refsL, SV.refs, thaw, fzAll, loA, hiA, elemOf, partsA, buildA, putCells, ↓reduceIte, reduceCtorEq, okCell, Nat.reduceAdd, Nat.reduceEqDiff, Nat.reduceSub, Nat.reduceMul, Nat.reduceLeDiff, Nat.reduceLT, Nat.reduceBEq, PV.scal, PV.scalL, SV.scal, SV.scalL, Ob.scal, PV.isCell, pure', resO]
    exact finA_val (by simp [retA, rvA, List.mapM_cons, List.mapM_nil, Option.pure_def, Option.bind_eq_bind, Option.bind_some, Option.map_some, mkE_cons, mk_nil, mkO_cons, mkO_nil, loadA, ↓reduceIte, List.take_succ_cons, List.take_zero, List.drop_zero, List.drop_succ_cons, List.length_cons, List.length_nil, Nat.reduceAdd, Nat.reduceEqDiff, Nat.reduceLeDiff, Nat.zero_add, Nat.le_refl, reduceCtorEq, SV.tr, SV.trL, nmF, rn_nil, rn_cons1, rn_cons2, List.map_cons, List.map_nil, List.all_cons, List.all_nil, plainOb, SV.refsL, SV.refs, Ob.refs, X, F, List.range_succ, List.range_zero, List.nil_append, List.cons_append, List.isEmpty_nil, decide_true, Nat.reduceLT, Bool.and_self, Bool.and_true, and_self, and_true, List.getElem?_cons_zero, List.getElem?_cons_succ, List.nodup_cons, List.nodup_nil, List.mem_cons, List.not_mem_nil, not_false_eq_true, or_false, List.append_nil, mkO, setO_mk, List.mem_singleton]) (by simp [SV.tr, SV.trL])
def a_eqAskedS (f_eqAsked : FuncId) : AFn := ⟨2, 
  .seq (.reg [⟨some 4, none, .d (.mv (.c (.bool false)))⟩])
  (.seq (.seq (.reg [⟨some 6, none, .d (.mv (.t 0))⟩,
    ⟨some 7, none, .d (.len (.t 6))⟩,
    ⟨some 8, none, .d (.mv (.t 1))⟩,
    ⟨some 9, none, .d (.len (.t 8))⟩,
    ⟨some 10, none, .d (.bin .arith .neq (.t 7) (.t 9))⟩])
  (.cond (.t 10) (.seq (.reg [⟨some 4, none, .d (.mv (.c (.bool false)))⟩])
   (.ret)) (.skip)))
  (.seq (.seq (.reg [⟨some 5, none, .d (.mv (.c (.int .i64 0)))⟩])
  (.block 0 (.loop (.seq (.seq (.reg [⟨some 11, none, .d (.mv (.t 5))⟩,
      ⟨some 12, none, .d (.mv (.t 0))⟩,
      ⟨some 13, none, .d (.len (.t 12))⟩,
      ⟨some 14, none, .d (.bin .arith .lss (.t 11) (.t 13))⟩])
    (.cond (.t 14) (.skip) (.exit 0)))
    (.seq (.block 1 (.seq (.dreg [] [([], ⟨some 17, none, .d (.mv (.t 0))⟩),
       ([], ⟨some 18, none, .d (.mv (.t 5))⟩),
       ([], ⟨some 19, none, .d (.ia 2 (.t 17) (.t 18))⟩),
       ([], ⟨some 20, none, .d (.load true 2 (.t 19))⟩),
       ([], ⟨some 21, none, .d (.mv (.t 1))⟩),
       ([], ⟨some 22, none, .d (.mv (.t 5))⟩),
       ([], ⟨some 23, none, .d (.ia 2 (.t 21) (.t 22))⟩),
       ([], ⟨some 24, none, .d (.load true 2 (.t 23))⟩)] [⟨some 25, none, .d (.call (.f f_eqAsked) [(.t 20), (.t 24)])⟩,
       ⟨some 26, none, .d (.not (.t 25))⟩])
     (.cond (.t 26) (.seq (.reg [⟨some 4, none, .d (.mv (.c (.bool false)))⟩])
      (.ret)) (.skip))))
    (.reg [⟨some 15, none, .d (.mv (.t 5))⟩,
      ⟨some 16, none, .d (.bin .arith .add (.t 15) (.c (.int .i64 1)))⟩,
      ⟨some 5, none, .d (.mv (.t 16))⟩]))))))
  (.seq (.reg [⟨some 4, none, .d (.mv (.c (.bool true)))⟩])
  (.ret)))), [.tmp 4]⟩
def n_eqAskedS : Nat → Option Ann := fun _ => none
abbrev k_eqAskedS : List Nat := [0, 1, 4, 5, 10, 14, 26]
abbrev o_eqAskedS : List Nat := []
def c_eqAskedS : Con := pure' fun
  | [.p v, .p u] => match slA v, slA u with
    | some l, some m => if l.length ≤ 1100000 ∧ m.length ≤ 1100000 then some (sb (decide (l = m)), []) else none
    | _, _ => none
  | _ => none
theorem s_eqAskedS {P : Program} (hm : P.follows .mixedOrders = true) {Γ : Gam} (hΓ : GS P Γ) {n : FuncId} {f_eqAsked : FuncId} (is : Is P n (a_eqAskedS f_eqAsked)) (h_eqAsked : Γ f_eqAsked = c_eqAsked)  : Says P n c_eqAskedS := by
  refine Says.pure fun args r fs h => ?_
  split at h
  case h_2 => cases h
  rename_i v u
  split at h
  case h_2 => cases h
  rename_i l m hl hm'
  split at h
  case isFalse => cases h
  rename_i hc
  simp only [Option.some.injEq, Prod.mk.injEq] at h
  obtain ⟨rfl, rfl⟩ := h
  have hlen := slA_len hl
  have hlenm := slA_len hm'
  by_cases hlm : l.length = m.length
  · have h0 : ((l.length : Int) != (m.length : Int)) = false := by simp [hlm]
    refine is.go hm hΓ k_eqAskedS o_eqAskedS (by simp [a_eqAskedS]) ?_
    simp only [a_eqAskedS, h_eqAsked, c_eqAsked, hlen, hlenm, h0, List.zipIdx_cons, List.zipIdx_nil, ↓SP, SQ, Gam.add, stepM, callC, argC, lendO, nmBy, nmC, likeL, likeB, plainOb, offs, exL, X, F, trP, trO, stepD, stepW, newA, SV.tr, SV.trL, fz, allP, Ob.tr, loadA, cellsA, SV.cells, binA, binI, eqOut, isSl, isPt, natOf, callee, snap, SV.refsL, SV.refs, thaw, fzAll, loA, hiA, elemOf, partsA, buildA, putCells, ↓reduceIte, reduceCtorEq, okCell, Nat.reduceAdd, Nat.reduceEqDiff, Nat.reduceSub, Nat.reduceMul, Nat.reduceLeDiff, Nat.reduceLT, Nat.reduceBEq, PV.scal, PV.scalL, SV.scal, SV.scalL, Ob.scal, PV.isCell, pure', resO]
    refine loop_at (fun s : Nat × SV × SV => mkEnv [(0, .p v), (1, .p u), (4, sb false), (5, si s.1), (10, sb false), (14, s.2.1), (26, s.2.2)]) (fun s => mkO []) (fun s => s.1 ≤ l.length ∧ ∀ j, j < s.1 → l.getD j (0, false) = m.getD j (0, false)) (fun s => l.length - s.1) (0, .junk, .junk) (by simp) rfl rfl ?_
    rintro ⟨i, c, c'⟩ ⟨hi, hp⟩ R hR hN
    simp only at hi hp
    by_cases h : i < l.length
    · rcases slA_out hl with rfl | ⟨rfl, rfl⟩
      case inr => simp at h
      rcases slA_out hm' with rfl | ⟨rfl, rfl⟩
      case inr => simp at hlm; simp [hlm] at h
      have h1 : (i : Int) < l.length := by omega
      have hw := wrap_one (i := i) (by omega)
      have hg := asks_get h
      have hg2 := asks_get (l := m) (i := i) (by omega)
      by_cases he : l.getD i (0, false) = m.getD i (0, false)
      · have he1 : decide ((l.getD i (0, false)).1 = (m.getD i (0, false)).1) = true := by rw [he]; simp
        have he2 : decide ((l.getD i (0, false)).2 = (m.getD i (0, false)).2) = true := by rw [he]; simp
        simp only [hlen, h, h1, hw, hg, hg2, h_eqAsked, c_eqAsked, he1, he2, ↓SP, SQ, Gam.add, stepM, callC, argC, lendO, nmBy, nmC, likeL, likeB, plainOb, offs, exL, X, F, trP, trO, stepD, stepW, newA, SV.tr, SV.trL, fz, allP, Ob.tr, loadA, cellsA, SV.cells, binA, binI, eqOut, isSl, isPt, natOf, callee, snap, SV.refsL, SV.refs, thaw, fzAll, loA, hiA, elemOf, partsA, buildA, putCells, ↓reduceIte, reduceCtorEq, okCell, Nat.reduceAdd, Nat.reduceEqDiff, Nat.reduceSub, Nat.reduceMul, Nat.reduceLeDiff, Nat.reduceLT, Nat.reduceBEq, PV.scal, PV.scalL, SV.scal, SV.scalL, Ob.scal, PV.isCell, pure', resO]
        refine hN (i + 1, _, _) _ _ ⟨by simp only; omega, fun j hj => ?_⟩ (by simp only; omega) rfl rfl
        simp only at hj
        by_cases hji : j = i
        · rw [hji]; exact he
        · exact hp j (by omega)
      · have he' : (decide ((l.getD i (0, false)).1 = (m.getD i (0, false)).1) && decide ((l.getD i (0, false)).2 = (m.getD i (0, false)).2)) = false := by
          rw [← Bool.not_eq_true, Bool.and_eq_true, decide_eq_true_eq, decide_eq_true_eq]
          exact fun ⟨x, y⟩ => he (Prod.ext x y)
        have hne : ¬ l = m := fun e => he (by rw [e])
        simp only [hlen, h, h1, hw, hg, hg2, h_eqAsked, c_eqAsked, he', ↓SP, SQ, Gam.add, stepM, callC, argC, lendO, nmBy, nmC, likeL, likeB, plainOb, offs, exL, X, F, trP, trO, stepD, stepW, newA, SV.tr, SV.trL, fz, allP, Ob.tr, loadA, cellsA, SV.cells, binA, binI, eqOut, isSl, isPt, natOf, callee, snap, SV.refsL, SV.refs, thaw, fzAll, loA, hiA, elemOf, partsA, buildA, putCells, ↓reduceIte, reduceCtorEq, okCell, Nat.reduceAdd, Nat.reduceEqDiff, Nat.reduceSub, Nat.reduceMul, Nat.reduceLeDiff, Nat.reduceLT, Nat.reduceBEq, PV.scal, PV.scalL, SV.scal, SV.scalL, Ob.scal, PV.isCell, pure', resO]
        refine hR _ _ _ (by intro h; cases h) ?_
        simp only [↓SP, SQ, Gam.add, stepM, callC, argC, lendO, nmBy, nmC, likeL, likeB, plainOb, offs, exL, X, F, trP, trO, stepD, stepW, newA, SV.tr, SV.trL, fz, allP, Ob.tr, loadA, cellsA, SV.cells, binA, binI, eqOut, isSl, isPt, natOf, callee, snap, SV.refsL, SV.refs, thaw, fzAll, loA, hiA, elemOf, partsA, buildA, putCells, ↓reduceIte, reduceCtorEq, okCell, Nat.reduceAdd, Nat.reduceEqDiff, Nat.reduceSub, Nat.reduceMul, Nat.reduceLeDiff, Nat.reduceLT, Nat.reduceBEq, PV.scal, PV.scalL, SV.scal, SV.scalL, Ob.scal, PV.isCell, pure', resO]
        exact finA_val (by simp [hne, retA, rvA, List.mapM_cons, List.mapM_nil, Option.pure_def, Option.bind_eq_bind, Option.bind_some, Option.map_some, mkE_cons, mk_nil, mkO_cons, mkO_nil, loadA, ↓reduceIte, List.take_succ_cons, List.take_zero, List.drop_zero, List.drop_succ_cons, List.length_cons, List.length_nil, Nat.reduceAdd, Nat.reduceEqDiff, Nat.reduceLeDiff, Nat.zero_add, Nat.le_refl, reduceCtorEq, SV.tr, SV.trL, nmF, rn_nil, rn_cons1, rn_cons2, List.map_cons, List.map_nil, List.all_cons, List.all_nil, plainOb, SV.refsL, SV.refs, Ob.refs, X, F, List.range_succ, List.range_zero, List.nil_append, List.cons_append, List.isEmpty_nil, decide_true, Nat.reduceLT, Bool.and_self, Bool.and_true, and_self, and_true, List.getElem?_cons_zero, List.getElem?_cons_succ, List.nodup_cons, List.nodup_nil, List.mem_cons, List.not_mem_nil, not_false_eq_true, or_false, List.append_nil, mkO, setO_mk, List.mem_singleton]) (by simp [SV.tr, SV.trL])
    · have he : i = l.length := by omega
      have h1 : ¬ (i : Int) < l.length := by omega
      have hlm' : l = m := eq_upto (0, false) hlm hi hp he
      have hd : decide (l = m) = true := by simpa using hlm'
      simp only [hlen, h1, ↓SP, SQ, Gam.add, stepM, callC, argC, lendO, nmBy, nmC, likeL, likeB, plainOb, offs, exL, X, F, trP, trO, stepD, stepW, newA, SV.tr, SV.trL, fz, allP, Ob.tr, loadA, cellsA, SV.cells, binA, binI, eqOut, isSl, isPt, natOf, callee, snap, SV.refsL, SV.refs, thaw, fzAll, loA, hiA, elemOf, partsA, buildA, putCells, ↓reduceIte, reduceCtorEq, okCell, Nat.reduceAdd, Nat.reduceEqDiff, Nat.reduceSub, Nat.reduceMul, Nat.reduceLeDiff, Nat.reduceLT, Nat.reduceBEq, PV.scal, PV.scalL, SV.scal, SV.scalL, Ob.scal, PV.isCell, pure', resO]
      refine hR _ _ _ (by intro h; cases h) ?_
      simp only [hd, ↓SP, SQ, Gam.add, stepM, callC, argC, lendO, nmBy, nmC, likeL, likeB, plainOb, offs, exL, X, F, trP, trO, stepD, stepW, newA, SV.tr, SV.trL, fz, allP, Ob.tr, loadA, cellsA, SV.cells, binA, binI, eqOut, isSl, isPt, natOf, callee, snap, SV.refsL, SV.refs, thaw, fzAll, loA, hiA, elemOf, partsA, buildA, putCells, ↓reduceIte, reduceCtorEq, okCell, Nat.reduceAdd, Nat.reduceEqDiff, Nat.reduceSub, Nat.reduceMul, Nat.reduceLeDiff, Nat.reduceLT, Nat.reduceBEq, PV.scal, PV.scalL, SV.scal, SV.scalL, Ob.scal, PV.isCell, pure', resO]
      exact finA_val (by simp [retA, rvA, List.mapM_cons, List.mapM_nil, Option.pure_def, Option.bind_eq_bind, Option.bind_some, Option.map_some, mkE_cons, mk_nil, mkO_cons, mkO_nil, loadA, ↓reduceIte, List.take_succ_cons, List.take_zero, List.drop_zero, List.drop_succ_cons, List.length_cons, List.length_nil, Nat.reduceAdd, Nat.reduceEqDiff, Nat.reduceLeDiff, Nat.zero_add, Nat.le_refl, reduceCtorEq, SV.tr, SV.trL, nmF, rn_nil, rn_cons1, rn_cons2, List.map_cons, List.map_nil, List.all_cons, List.all_nil, plainOb, SV.refsL, SV.refs, Ob.refs, X, F, List.range_succ, List.range_zero, List.nil_append, List.cons_append, List.isEmpty_nil, decide_true, Nat.reduceLT, Bool.and_self, Bool.and_true, and_self, and_true, List.getElem?_cons_zero, List.getElem?_cons_succ, List.nodup_cons, List.nodup_nil, List.mem_cons, List.not_mem_nil, not_false_eq_true, or_false, List.append_nil, mkO, setO_mk, List.mem_singleton]) (by simp [SV.tr, SV.trL])
  · have h0 : ((l.length : Int) != (m.length : Int)) = true := bne_iff_ne.2 (by omega)
    have hne : ¬ l = m := fun e => hlm (by rw [e])
    refine is.go hm hΓ k_eqAskedS o_eqAskedS (by simp [a_eqAskedS]) ?_
    simp only [a_eqAskedS, h_eqAsked, c_eqAsked, hlen, hlenm, h0, List.zipIdx_cons, List.zipIdx_nil, ↓SP, SQ, Gam.add, stepM, callC, argC, lendO, nmBy, nmC, likeL, likeB, plainOb, offs, exL, X, F, trP, trO, stepD, stepW, newA, SV.tr, SV.trL, fz, allP, Ob.tr, loadA, cellsA, SV.cells, binA, binI, eqOut, isSl, isPt, natOf, callee, snap, SV.refsL, SV.refs, thaw, fzAll, loA, hiA, elemOf, partsA, buildA, putCells, ↓reduceIte, reduceCtorEq, okCell, Nat.reduceAdd, Nat.reduceEqDiff, Nat.reduceSub, Nat.reduceMul, Nat.reduceLeDiff, Nat.reduceLT, Nat.reduceBEq, PV.scal, PV.scalL, SV.scal, SV.scalL, Ob.scal, PV.isCell, pure', resO]
    exact finA_val (by simp [hne, retA, rvA, List.mapM_cons, List.mapM_nil, Option.pure_def, Option.bind_eq_bind, Option.bind_some, Option.map_some, mkE_cons, mk_nil, mkO_cons, mkO_nil, loadA, ↓reduceIte, List.take_succ_cons, List.take_zero, List.drop_zero, List.drop_succ_cons, List.length_cons, List.length_nil, Nat.reduceAdd, Nat.reduceEqDiff, Nat.reduceLeDiff, Nat.zero_add, Nat.le_refl, reduceCtorEq, SV.tr, SV.trL, nmF, rn_nil, rn_cons1, rn_cons2, List.map_cons, List.map_nil, List.all_cons, List.all_nil, plainOb, SV.refsL, SV.refs, Ob.refs, X, F, List.range_succ, List.range_zero, List.nil_append, List.cons_append, List.isEmpty_nil, decide_true, Nat.reduceLT, Bool.and_self, Bool.and_true, and_self, and_true, List.getElem?_cons_zero, List.getElem?_cons_succ, List.nodup_cons, List.nodup_nil, List.mem_cons, List.not_mem_nil, not_false_eq_true, or_false, List.append_nil, mkO, setO_mk, List.mem_singleton]) (by simp [SV.tr, SV.trL])
def a_markAskedS : AFn := ⟨2, 
  .seq (.reg [⟨some 4, none, .d (.mv (.c (.int .i64 0)))⟩])
  (.seq (.seq (.reg [⟨some 5, none, .d (.mv (.c (.int .i64 0)))⟩])
  (.block 0 (.loop (.seq (.seq (.reg [⟨some 6, none, .d (.mv (.t 5))⟩,
      ⟨some 7, none, .d (.mv (.t 0))⟩,
      ⟨some 8, none, .d (.len (.t 7))⟩,
      ⟨some 9, none, .d (.bin .arith .lss (.t 6) (.t 8))⟩])
    (.cond (.t 9) (.skip) (.exit 0)))
    (.seq (.block 1 (.seq (.reg [⟨some 12, none, .d (.mv (.t 0))⟩,
       ⟨some 13, none, .d (.mv (.t 5))⟩,
       ⟨some 14, none, .d (.mv (.t 1))⟩,
       ⟨some 15, none, .d (.ia 2 (.t 12) (.t 13))⟩,
       ⟨some 16, none, .d (.fa 0 (.t 15))⟩,
       ⟨none, none, .w (.store 1 (.t 16) (.t 14))⟩])
     (.seq (.reg [⟨some 17, none, .d (.mv (.t 1))⟩,
       ⟨some 18, none, .d (.bin .arith .add (.t 17) (.c (.int .i64 1)))⟩,
       ⟨some 1, none, .d (.mv (.t 18))⟩])
     (.seq (.reg [⟨some 19, none, .d (.mv (.t 0))⟩,
       ⟨some 20, none, .d (.mv (.t 5))⟩,
       ⟨some 21, none, .d (.mv (.t 1))⟩,
       ⟨some 22, none, .d (.bin .arith .rem (.t 21) (.c (.int .i64 3)))⟩,
       ⟨some 23, none, .d (.bin .arith .eql (.t 22) (.c (.int .i64 0)))⟩,
       ⟨some 24, none, .d (.ia 2 (.t 19) (.t 20))⟩,
       ⟨some 25, none, .d (.fa 1 (.t 24))⟩,
       ⟨none, none, .w (.store 1 (.t 25) (.t 23))⟩])
     (.reg [⟨some 26, none, .d (.mv (.t 1))⟩,
       ⟨some 27, none, .d (.bin .arith .add (.t 26) (.c (.int .i64 1)))⟩,
       ⟨some 1, none, .d (.mv (.t 27))⟩])))))
    (.reg [⟨some 10, none, .d (.mv (.t 5))⟩,
      ⟨some 11, none, .d (.bin .arith .add (.t 10) (.c (.int .i64 1)))⟩,
      ⟨some 5, none, .d (.mv (.t 11))⟩]))))))
  (.seq (.reg [⟨some 28, none, .d (.mv (.t 1))⟩,
    ⟨some 4, none, .d (.mv (.t 28))⟩])
  (.ret))), [.tmp 4]⟩
def n_markAskedS : Nat → Option Ann := fun _ => none
abbrev k_markAskedS : List Nat := [0, 1, 4, 5, 9]
abbrev o_markAskedS : List Nat := []
/-- The marks of answers. -/
def markA1 (k : Int) (j : Nat) : Int × Bool := (k + 2 * (j : Int), (k + 2 * (j : Int) + 1).tmod 3 == 0)
def marksA (k : Int) (n : Nat) : List (Int × Bool) := (List.range n).map (markA1 k)
def c_markAskedS : Con
  | [.ar 1000000, .p (.int .i64 k)], [.arr 2 xs] => if isAs xs = true ∧ xs.length ≤ 1100000 ∧ 0 ≤ k ∧ k ≤ 10000000 then some (.p (.int .i64 (k + 2 * xs.length)), [.arr 2 (asks (marksA k xs.length))], []) else none
  | [.p .nilsl, .p (.int .i64 k)], [] => if 0 ≤ k ∧ k ≤ 10000000 then some (.p (.int .i64 k), [], []) else none
  | _, _ => none
theorem s_markAskedS {P : Program} (hm : P.follows .mixedOrders = true) {Γ : Gam} (hΓ : GS P Γ) {n : FuncId} (is : Is P n a_markAskedS)  : Says P n c_markAskedS := by
  intro args ext r ext' fs h
  unfold c_markAskedS at h
  split at h
  case h_3 => cases h
  · rename_i k xs
    split at h
    case isFalse => cases h
    rename_i hc
    obtain ⟨hx, hl, hk0, hk1⟩ := hc
    obtain ⟨l, rfl⟩ := isAs_out hx
    rw [asks_len] at hl
    simp only [Option.some.injEq, Prod.mk.injEq, asks_len] at h
    obtain ⟨rfl, rfl, rfl⟩ := h
    refine is.goX hm hΓ k_markAskedS (1000000 :: o_markAskedS) (by simp [a_markAskedS]) (by simp) ?_
    simp only [a_markAskedS, List.zipIdx_cons, List.zipIdx_nil, ↓SP, SQ, Gam.add, stepM, callC, argC, lendO, nmBy, nmC, likeL, likeB, plainOb, offs, exL, X, F, trP, trO, stepD, stepW, newA, SV.tr, SV.trL, fz, allP, Ob.tr, loadA, cellsA, SV.cells, binA, binI, eqOut, isSl, isPt, natOf, callee, snap, SV.refsL, SV.refs, thaw, fzAll, loA, hiA, elemOf, partsA, buildA, putCells, ↓reduceIte, reduceCtorEq, okCell, Nat.reduceAdd, Nat.reduceEqDiff, Nat.reduceSub, Nat.reduceMul, Nat.reduceLeDiff, Nat.reduceLT, Nat.reduceBEq, PV.scal, PV.scalL, SV.scal, SV.scalL, Ob.scal, PV.isCell, pure', resO]
    generalize hgg : (fun i : Nat => markA1 k i) = gg
    refine loop_at (fun s : Nat × SV => mkEnv [(0, .ar 1000000), (1, si (k + 2 * (s.1 : Int))), (4, si 0), (5, si s.1), (9, s.2)]) (fun s => mkO [(1000000, some (.arr 2 (asks ((List.range s.1).map gg ++ l.drop s.1))))]) (fun s => s.1 ≤ l.length) (fun s => l.length - s.1) (0, .junk) (by simp) (by simp) (by simp) ?_
    rintro ⟨i, c⟩ hi R hR hN
    simp only at hi
    have hml : (asks ((List.range i).map gg ++ l.drop i)).length = l.length := by simp [asks_len]; omega
    by_cases h : i < l.length
    · have hlt : i < (asks ((List.range i).map gg ++ l.drop i)).length := by omega
      have h1 : (i : Int) < l.length := by omega
      have hw := wrap_one (i := i) (by omega)
      have hw2 : IntKind.i64.wrap (k + 2 * (i : Int) + 1) = k + 2 * (i : Int) + 1 := wrap64 (by omega) (by omega)
      have hw3 : IntKind.i64.wrap (k + 2 * (i : Int) + 1 + 1) = k + 2 * ((i + 1 : Nat) : Int) := by rw [wrap64 (by omega) (by omega)]; omega
      have hw4 : IntKind.i64.wrap ((k + 2 * (i : Int) + 1).tmod 3) = (k + 2 * (i : Int) + 1).tmod 3 := by
        have := Int.tmod_lt_of_pos (k + 2 * (i : Int) + 1) (b := 3) (by omega)
        have := Int.tmod_nonneg (a := k + 2 * (i : Int) + 1) 3 (by omega)
        exact wrap64 (by omega) (by omega)
      have hg := asks_get (l := (List.range i).map gg ++ l.drop i) (i := i) (by simp; omega)
      have hll : ((List.range i).map gg ++ l.drop i).length = l.length := by simp; omega
      have hg2 : ∀ a, (asks (((List.range i).map gg ++ l.drop i).set i a))[i]? = some (.agg [.int .i64 a.1, .bool a.2]) := fun a => by
        rw [asks_get (by simp; omega), getD_lt (by simp; omega)]; simp
      have hst : ((List.range i).map gg ++ l.drop i).set i (k + 2 * (i : Int), (k + 2 * (i : Int) + 1).tmod 3 == 0) = (List.range (i + 1)).map gg ++ l.drop (i + 1) := by
        rw [List.set_append_right _ _ (by simp), List.length_map, List.length_range, Nat.sub_self, List.drop_eq_getElem_cons h, List.set_cons_zero, List.range_succ, List.map_append, List.append_assoc, ← hgg]
        rfl
      simp only [hml, hll, h, h1, hw, hw2, hw3, hw4, hg, hg2, hst, hlt, asks_set, asks_len, List.length_set, List.set_set, List.set_cons_zero, List.set_cons_succ, putPV, Int.reduceEq, ↓SP, SQ, Gam.add, stepM, callC, argC, lendO, nmBy, nmC, likeL, likeB, plainOb, offs, exL, X, F, trP, trO, stepD, stepW, newA, SV.tr, SV.trL, fz, allP, Ob.tr, loadA, cellsA, SV.cells, binA, binI, eqOut, isSl, isPt, natOf, callee, snap, SV.refsL, SV.refs, thaw, fzAll, loA, hiA, elemOf, partsA, buildA, putCells, ↓reduceIte, reduceCtorEq, okCell, Nat.reduceAdd, Nat.reduceEqDiff, Nat.reduceSub, Nat.reduceMul, Nat.reduceLeDiff, Nat.reduceLT, Nat.reduceBEq, PV.scal, PV.scalL, SV.scal, SV.scalL, Ob.scal, PV.isCell, pure', resO]
      exact hN (i + 1, .p (.bool true)) _ _ (by simp only; omega) (by simp only; omega) rfl rfl
    · have he : i = l.length := by omega
      have h1 : ¬ (i : Int) < l.length := by omega
      simp only [hml, h1, ↓SP, SQ, Gam.add, stepM, callC, argC, lendO, nmBy, nmC, likeL, likeB, plainOb, offs, exL, X, F, trP, trO, stepD, stepW, newA, SV.tr, SV.trL, fz, allP, Ob.tr, loadA, cellsA, SV.cells, binA, binI, eqOut, isSl, isPt, natOf, callee, snap, SV.refsL, SV.refs, thaw, fzAll, loA, hiA, elemOf, partsA, buildA, putCells, ↓reduceIte, reduceCtorEq, okCell, Nat.reduceAdd, Nat.reduceEqDiff, Nat.reduceSub, Nat.reduceMul, Nat.reduceLeDiff, Nat.reduceLT, Nat.reduceBEq, PV.scal, PV.scalL, SV.scal, SV.scalL, Ob.scal, PV.isCell, pure', resO]
      refine hR _ _ _ (by intro h; cases h) ?_
      simp only [↓SP, SQ, Gam.add, stepM, callC, argC, lendO, nmBy, nmC, likeL, likeB, plainOb, offs, exL, X, F, trP, trO, stepD, stepW, newA, SV.tr, SV.trL, fz, allP, Ob.tr, loadA, cellsA, SV.cells, binA, binI, eqOut, isSl, isPt, natOf, callee, snap, SV.refsL, SV.refs, thaw, fzAll, loA, hiA, elemOf, partsA, buildA, putCells, ↓reduceIte, reduceCtorEq, okCell, Nat.reduceAdd, Nat.reduceEqDiff, Nat.reduceSub, Nat.reduceMul, Nat.reduceLeDiff, Nat.reduceLT, Nat.reduceBEq, PV.scal, PV.scalL, SV.scal, SV.scalL, Ob.scal, PV.isCell, pure', resO]
      subst he
      have hme : (List.range l.length).map gg ++ l.drop l.length = marksA k l.length := by rw [← hgg]; simp [marksA]
      exact finA_gen [] trivial (by simp [retA, rvA, List.mapM_cons, List.mapM_nil, Option.pure_def, Option.bind_eq_bind, Option.bind_some, Option.map_some, mkE_cons, mk_nil, mkO_cons, mkO_nil, loadA, ↓reduceIte, List.take_succ_cons, List.take_zero, List.drop_zero, List.drop_succ_cons, List.length_cons, List.length_nil, Nat.reduceAdd, Nat.reduceEqDiff, Nat.reduceLeDiff, Nat.zero_add, Nat.le_refl, reduceCtorEq, SV.tr, SV.trL, nmF, rn_nil, rn_cons1, rn_cons2, List.map_cons, List.map_nil, List.all_cons, List.all_nil, plainOb, SV.refsL, SV.refs, Ob.refs, X, F, List.range_succ, List.range_zero, List.nil_append, List.cons_append, List.isEmpty_nil, decide_true, Nat.reduceLT, Bool.and_self, Bool.and_true, and_self, and_true, List.getElem?_cons_zero, List.getElem?_cons_succ, List.nodup_cons, List.nodup_nil, List.mem_cons, List.not_mem_nil, not_false_eq_true, or_false, List.append_nil, mkO, setO_mk, List.mem_singleton]; rfl) (by simp [retA, rvA, List.mapM_cons, List.mapM_nil, Option.pure_def, Option.bind_eq_bind, Option.bind_some, Option.map_some, mkE_cons, mk_nil, mkO_cons, mkO_nil, loadA, ↓reduceIte, List.take_succ_cons, List.take_zero, List.drop_zero, List.drop_succ_cons, List.length_cons, List.length_nil, Nat.reduceAdd, Nat.reduceEqDiff, Nat.reduceLeDiff, Nat.zero_add, Nat.le_refl, reduceCtorEq, SV.tr, SV.trL, nmF, rn_nil, rn_cons1, rn_cons2, List.map_cons, List.map_nil, List.all_cons, List.all_nil, plainOb, SV.refsL, SV.refs, Ob.refs, X, F, List.range_succ, List.range_zero, List.nil_append, List.cons_append, List.isEmpty_nil, decide_true, Nat.reduceLT, Bool.and_self, Bool.and_true, and_self, and_true, List.getElem?_cons_zero, List.getElem?_cons_succ, List.nodup_cons, List.nodup_nil, List.mem_cons, List.not_mem_nil, not_false_eq_true, or_false, List.append_nil, mkO, setO_mk, List.mem_singleton]) (by simp) (by simp) (by simp) (by simp) (by simp only [hme]; simp [retA, rvA, List.mapM_cons, List.mapM_nil, Option.pure_def, Option.bind_eq_bind, Option.bind_some, Option.map_some, mkE_cons, mk_nil, mkO_cons, mkO_nil, loadA, ↓reduceIte, List.take_succ_cons, List.take_zero, List.drop_zero, List.drop_succ_cons, List.length_cons, List.length_nil, Nat.reduceAdd, Nat.reduceEqDiff, Nat.reduceLeDiff, Nat.zero_add, Nat.le_refl, reduceCtorEq, SV.tr, SV.trL, nmF, rn_nil, rn_cons1, rn_cons2, List.map_cons, List.map_nil, List.all_cons, List.all_nil, plainOb, SV.refsL, SV.refs, Ob.refs, X, F, List.range_succ, List.range_zero, List.nil_append, List.cons_append, List.isEmpty_nil, decide_true, Nat.reduceLT, Bool.and_self, Bool.and_true, and_self, and_true, List.getElem?_cons_zero, List.getElem?_cons_succ, List.nodup_cons, List.nodup_nil, List.mem_cons, List.not_mem_nil, not_false_eq_true, or_false, List.append_nil, mkO, setO_mk, List.mem_singleton]) (by simp [retA, rvA, List.mapM_cons, List.mapM_nil, Option.pure_def, Option.bind_eq_bind, Option.bind_some, Option.map_some, mkE_cons, mk_nil, mkO_cons, mkO_nil, loadA, ↓reduceIte, List.take_succ_cons, List.take_zero, List.drop_zero, List.drop_succ_cons, List.length_cons, List.length_nil, Nat.reduceAdd, Nat.reduceEqDiff, Nat.reduceLeDiff, Nat.zero_add, Nat.le_refl, reduceCtorEq, SV.tr, SV.trL, nmF, rn_nil, rn_cons1, rn_cons2, List.map_cons, List.map_nil, List.all_cons, List.all_nil, plainOb, SV.refsL, SV.refs, Ob.refs, X, F, List.range_succ, List.range_zero, List.nil_append, List.cons_append, List.isEmpty_nil, decide_true, Nat.reduceLT, Bool.and_self, Bool.and_true, and_self, and_true, List.getElem?_cons_zero, List.getElem?_cons_succ, List.nodup_cons, List.nodup_nil, List.mem_cons, List.not_mem_nil, not_false_eq_true, or_false, List.append_nil, mkO, setO_mk, List.mem_singleton])
  · rename_i k
    split at h
    case isFalse => cases h
    simp only [Option.some.injEq, Prod.mk.injEq] at h
    obtain ⟨rfl, rfl, rfl⟩ := h
    refine is.goX hm hΓ k_markAskedS o_markAskedS (by simp [a_markAskedS]) (by simp) ?_
    simp only [a_markAskedS, List.zipIdx_cons, List.zipIdx_nil, ↓SP, SQ, Gam.add, stepM, callC, argC, lendO, nmBy, nmC, likeL, likeB, plainOb, offs, exL, X, F, trP, trO, stepD, stepW, newA, SV.tr, SV.trL, fz, allP, Ob.tr, loadA, cellsA, SV.cells, binA, binI, eqOut, isSl, isPt, natOf, callee, snap, SV.refsL, SV.refs, thaw, fzAll, loA, hiA, elemOf, partsA, buildA, putCells, ↓reduceIte, reduceCtorEq, okCell, Nat.reduceAdd, Nat.reduceEqDiff, Nat.reduceSub, Nat.reduceMul, Nat.reduceLeDiff, Nat.reduceLT, Nat.reduceBEq, PV.scal, PV.scalL, SV.scal, SV.scalL, Ob.scal, PV.isCell, pure', resO]
    refine loop_at (fun s : SV => mkEnv [(0, .p .nilsl), (1, si k), (4, si 0), (5, si 0), (9, s)]) (fun s => mkO []) (fun _ => True) (fun _ => 0) .junk trivial rfl rfl ?_
    intro c _ R hR hN
    simp only [↓SP, SQ, Gam.add, stepM, callC, argC, lendO, nmBy, nmC, likeL, likeB, plainOb, offs, exL, X, F, trP, trO, stepD, stepW, newA, SV.tr, SV.trL, fz, allP, Ob.tr, loadA, cellsA, SV.cells, binA, binI, eqOut, isSl, isPt, natOf, callee, snap, SV.refsL, SV.refs, thaw, fzAll, loA, hiA, elemOf, partsA, buildA, putCells, ↓reduceIte, reduceCtorEq, okCell, Nat.reduceAdd, Nat.reduceEqDiff, Nat.reduceSub, Nat.reduceMul, Nat.reduceLeDiff, Nat.reduceLT, Nat.reduceBEq, PV.scal, PV.scalL, SV.scal, SV.scalL, Ob.scal, PV.isCell, pure', resO]
    refine hR _ _ _ (by intro h; cases h) ?_
    simp only [↓SP, SQ, Gam.add, stepM, callC, argC, lendO, nmBy, nmC, likeL, likeB, plainOb, offs, exL, X, F, trP, trO, stepD, stepW, newA, SV.tr, SV.trL, fz, allP, Ob.tr, loadA, cellsA, SV.cells, binA, binI, eqOut, isSl, isPt, natOf, callee, snap, SV.refsL, SV.refs, thaw, fzAll, loA, hiA, elemOf, partsA, buildA, putCells, ↓reduceIte, reduceCtorEq, okCell, Nat.reduceAdd, Nat.reduceEqDiff, Nat.reduceSub, Nat.reduceMul, Nat.reduceLeDiff, Nat.reduceLT, Nat.reduceBEq, PV.scal, PV.scalL, SV.scal, SV.scalL, Ob.scal, PV.isCell, pure', resO]
    exact finA_gen [] trivial (by simp [retA, rvA, List.mapM_cons, List.mapM_nil, Option.pure_def, Option.bind_eq_bind, Option.bind_some, Option.map_some, mkE_cons, mk_nil, mkO_cons, mkO_nil, loadA, ↓reduceIte, List.take_succ_cons, List.take_zero, List.drop_zero, List.drop_succ_cons, List.length_cons, List.length_nil, Nat.reduceAdd, Nat.reduceEqDiff, Nat.reduceLeDiff, Nat.zero_add, Nat.le_refl, reduceCtorEq, SV.tr, SV.trL, nmF, rn_nil, rn_cons1, rn_cons2, List.map_cons, List.map_nil, List.all_cons, List.all_nil, plainOb, SV.refsL, SV.refs, Ob.refs, X, F, List.range_succ, List.range_zero, List.nil_append, List.cons_append, List.isEmpty_nil, decide_true, Nat.reduceLT, Bool.and_self, Bool.and_true, and_self, and_true, List.getElem?_cons_zero, List.getElem?_cons_succ, List.nodup_cons, List.nodup_nil, List.mem_cons, List.not_mem_nil, not_false_eq_true, or_false, List.append_nil, mkO, setO_mk, List.mem_singleton]; rfl) (by simp [retA, rvA, List.mapM_cons, List.mapM_nil, Option.pure_def, Option.bind_eq_bind, Option.bind_some, Option.map_some, mkE_cons, mk_nil, mkO_cons, mkO_nil, loadA, ↓reduceIte, List.take_succ_cons, List.take_zero, List.drop_zero, List.drop_succ_cons, List.length_cons, List.length_nil, Nat.reduceAdd, Nat.reduceEqDiff, Nat.reduceLeDiff, Nat.zero_add, Nat.le_refl, reduceCtorEq, SV.tr, SV.trL, nmF, rn_nil, rn_cons1, rn_cons2, List.map_cons, List.map_nil, List.all_cons, List.all_nil, plainOb, SV.refsL, SV.refs, Ob.refs, X, F, List.range_succ, List.range_zero, List.nil_append, List.cons_append, List.isEmpty_nil, decide_true, Nat.reduceLT, Bool.and_self, Bool.and_true, and_self, and_true, List.getElem?_cons_zero, List.getElem?_cons_succ, List.nodup_cons, List.nodup_nil, List.mem_cons, List.not_mem_nil, not_false_eq_true, or_false, List.append_nil, mkO, setO_mk, List.mem_singleton]) (by simp) (by simp) (by simp) (by simp) (by simp [retA, rvA, List.mapM_cons, List.mapM_nil, Option.pure_def, Option.bind_eq_bind, Option.bind_some, Option.map_some, mkE_cons, mk_nil, mkO_cons, mkO_nil, loadA, ↓reduceIte, List.take_succ_cons, List.take_zero, List.drop_zero, List.drop_succ_cons, List.length_cons, List.length_nil, Nat.reduceAdd, Nat.reduceEqDiff, Nat.reduceLeDiff, Nat.zero_add, Nat.le_refl, reduceCtorEq, SV.tr, SV.trL, nmF, rn_nil, rn_cons1, rn_cons2, List.map_cons, List.map_nil, List.all_cons, List.all_nil, plainOb, SV.refsL, SV.refs, Ob.refs, X, F, List.range_succ, List.range_zero, List.nil_append, List.cons_append, List.isEmpty_nil, decide_true, Nat.reduceLT, Bool.and_self, Bool.and_true, and_self, and_true, List.getElem?_cons_zero, List.getElem?_cons_succ, List.nodup_cons, List.nodup_nil, List.mem_cons, List.not_mem_nil, not_false_eq_true, or_false, List.append_nil, mkO, setO_mk, List.mem_singleton]) (by simp [retA, rvA, List.mapM_cons, List.mapM_nil, Option.pure_def, Option.bind_eq_bind, Option.bind_some, Option.map_some, mkE_cons, mk_nil, mkO_cons, mkO_nil, loadA, ↓reduceIte, List.take_succ_cons, List.take_zero, List.drop_zero, List.drop_succ_cons, List.length_cons, List.length_nil, Nat.reduceAdd, Nat.reduceEqDiff, Nat.reduceLeDiff, Nat.zero_add, Nat.le_refl, reduceCtorEq, SV.tr, SV.trL, nmF, rn_nil, rn_cons1, rn_cons2, List.map_cons, List.map_nil, List.all_cons, List.all_nil, plainOb, SV.refsL, SV.refs, Ob.refs, X, F, List.range_succ, List.range_zero, List.nil_append, List.cons_append, List.isEmpty_nil, decide_true, Nat.reduceLT, Bool.and_self, Bool.and_true, and_self, and_true, List.getElem?_cons_zero, List.getElem?_cons_succ, List.nodup_cons, List.nodup_nil, List.mem_cons, List.not_mem_nil, not_false_eq_true, or_false, List.append_nil, mkO, setO_mk, List.mem_singleton])
theorem marksA_len (k : Int) (n : Nat) : (marksA k n).length = n := by simp [marksA]
end Go.Proofs.Ytgnclbdhpdjafaa.Pam
