/- A part of the proof that stands in this folder: a small machine whose steps are shown to be the steps of the model, or walks of functions by it. No condition of its own. -/
import Derived.Test.YtihpfhdkjlphhaaGdLC
set_option linter.unusedVariables false
set_option linter.unusedSimpArgs false
namespace Go.Proofs.Ytihpfhdkjlphhaa.Pam
open Go
/-- What a number's lies become behind an answer that is false for it. -/
def afterF (f : Nat → Bool) (m : Int) (l : List Int) (i : Nat) : Int := if 0 ≤ l.getD i 0 ∧ f i = true then (if m < l.getD i 0 + 1 then -1 else l.getD i 0 + 1) else l.getD i 0
def afterL (f : Nat → Bool) (m : Int) (l : List Int) : List Int := (List.range l.length).map (afterF f m l)
theorem afterL_len (f : Nat → Bool) (m : Int) (l : List Int) : (afterL f m l).length = l.length := by simp [afterL]
/-- The numbers from 0 on. -/
def upto (n : Nat) : List PV := ints ((List.range n).map fun i : Nat => (i : Int))
theorem upto_get {n i : Nat} (h : i < n) : (upto n)[i]? = some (.int .i64 i) := by
  simp [upto, ints, h]
theorem upto_len (n : Nat) : (upto n).length = n := by simp [upto, ints]
def a_after (f_Clone : FuncId) : AFn := ⟨2, 
  .seq (.reg [⟨some 2, none, .w (.box 2 (.t 0))⟩,
    ⟨some 4, none, .w (.alloc [.nilsl, .int .i64 0])⟩])
  (.seq (.dreg [10, 5] [([10, 5], ⟨some 8, none, .d (.fa 0 (.t 2))⟩),
    ([10, 5], ⟨some 9, none, .d (.load false 1 (.t 8))⟩),
    ([5], ⟨some 10, none, .w (.callL (.f f_Clone) [(.t 9)] [] 1 false)⟩),
    ([10, 5], ⟨some 11, none, .d (.fa 1 (.t 2))⟩),
    ([10, 5], ⟨some 12, none, .d (.load false 1 (.t 11))⟩),
    ([5], ⟨some 13, none, .d (.build [.nilsl, .int .i64 0] [(0, 1, (.t 10)), (1, 1, (.t 12))])⟩),
    ([10], ⟨some 5, none, .w (.alloc [.nilsl, .int .i64 0])⟩)] [⟨none, none, .w (.store 2 (.t 5) (.t 13))⟩])
  (.seq (.seq (.reg [⟨some 14, none, .d (.fa 0 (.t 5))⟩,
    ⟨some 15, none, .d (.load false 1 (.t 14))⟩,
    ⟨some 16, none, .d (.len (.t 15))⟩,
    ⟨some 17, none, .d (.mv (.c (.int .i64 0)))⟩])
  (.block 0 (.loop (.seq (.reg [⟨some 18, none, .d (.bin .arith .lss (.t 17) (.t 16))⟩])
    (.seq (.cond (.t 18) (.skip) (.exit 0))
    (.seq (.block 1 (.seq (.reg [⟨some 19, none, .d (.mv (.t 17))⟩,
       ⟨some 20, none, .d (.ia 1 (.t 15) (.t 17))⟩,
       ⟨some 21, none, .d (.load false 1 (.t 20))⟩,
       ⟨some 6, none, .d (.mv (.t 19))⟩,
       ⟨some 7, none, .d (.mv (.t 21))⟩])
     (.seq (.reg [⟨some 22, none, .d (.mv (.t 7))⟩,
       ⟨some 23, none, .d (.bin .arith .geq (.t 22) (.c (.int .i64 0)))⟩,
       ⟨some 24, none, .d (.mv (.t 23))⟩,
       ⟨some 25, some (24, true), .d (.mv (.t 1))⟩,
       ⟨some 26, some (24, true), .d (.mv (.t 6))⟩,
       ⟨some 27, some (24, true), .d (.call (.t 25) [(.t 26)])⟩,
       ⟨some 28, none, .d (.pick (.t 24) (.t 27) (.c (.bool false)))⟩])
     (.cond (.t 28) (.seq (.reg [⟨some 29, none, .d (.fa 0 (.t 5))⟩,
        ⟨some 30, none, .d (.load false 1 (.t 29))⟩,
        ⟨some 31, none, .d (.mv (.t 6))⟩,
        ⟨some 32, none, .d (.ia 1 (.t 30) (.t 31))⟩,
        ⟨some 33, none, .d (.load false 1 (.t 32))⟩,
        ⟨some 34, none, .d (.bin .arith .add (.t 33) (.c (.int .i64 1)))⟩,
        ⟨some 35, none, .d (.ia 1 (.t 30) (.t 31))⟩,
        ⟨none, none, .w (.store 1 (.t 35) (.t 34))⟩])
      (.seq (.dreg [] [([], ⟨some 36, none, .d (.fa 0 (.t 5))⟩),
        ([], ⟨some 37, none, .d (.load false 1 (.t 36))⟩),
        ([], ⟨some 38, none, .d (.mv (.t 6))⟩),
        ([], ⟨some 39, none, .d (.ia 1 (.t 37) (.t 38))⟩),
        ([], ⟨some 40, none, .d (.load false 1 (.t 39))⟩),
        ([], ⟨some 41, none, .d (.fa 1 (.t 2))⟩),
        ([], ⟨some 42, none, .d (.load false 1 (.t 41))⟩)] [⟨some 43, none, .d (.bin .arith .gtr (.t 40) (.t 42))⟩])
      (.cond (.t 43) (.reg [⟨some 44, none, .d (.fa 0 (.t 5))⟩,
         ⟨some 45, none, .d (.load false 1 (.t 44))⟩,
         ⟨some 46, none, .d (.mv (.t 6))⟩,
         ⟨some 47, none, .d (.ia 1 (.t 45) (.t 46))⟩,
         ⟨none, none, .w (.store 1 (.t 47) (.c (.int .i64 (-1))))⟩]) (.skip)))) (.skip)))))
    (.reg [⟨some 48, none, .d (.bin .arith .add (.t 17) (.c (.int .i64 1)))⟩,
      ⟨some 17, none, .d (.mv (.t 48))⟩])))))))
  (.seq (.reg [⟨some 49, none, .d (.load true 2 (.t 5))⟩,
    ⟨none, none, .w (.store 2 (.t 4) (.t 49))⟩])
  (.ret)))), [.cell 4 2 true]⟩
def n_after : Nat → Option Ann := fun d => if d = 10 then some ⟨[], 1, false⟩ else none
abbrev k_after : List Nat := [0, 1, 2, 4, 5, 6, 7, 15, 16, 17, 18, 28, 43]
abbrev o_after : List Nat := [2, 4, 5, 10]
def c_after (Γ0 : Gam) : Con := pure' fun
  | [.p (.agg [.sl 1 xs, .int .i64 m]), .p (.fn g a b)] => if isI xs = true ∧ xs.length ≤ 1100000 ∧ ((ofI xs).all fun x => decide (x ≤ 1000)) = true then (match askF Γ0 g a b (upto xs.length) with
    | some bs => some (.ag [.ar 2000000, .p (.int .i64 m)], [.arr 1 (ints (afterL (fun i => bs.getD i false) m (ofI xs)))])
    | none => none) else none
  | _ => none
theorem dec_t {p : Prop} [Decidable p] (h : p) : decide p = true := by simpa using h
theorem dec_f {p : Prop} [Decidable p] (h : ¬ p) : decide p = false := by simpa using h
theorem s_after {P : Program} (hm : P.follows .mixedOrders = true) {Γ : Gam} (hΓ : GS P Γ) {n : FuncId} {f_Clone : FuncId} (is : Is P n (a_after f_Clone)) (h_Clone : Γ f_Clone = c_Clone)  : Says P n (c_after Γ) := by
  refine Says.pure fun args r fs h => ?_
  split at h
  case h_2 => cases h
  rename_i xs m g a b
  split at h
  case isFalse => cases h
  rename_i hc
  obtain ⟨hx, hlen, hsm⟩ := hc
  obtain ⟨l, rfl⟩ := isI_out hx
  rw [ints_len] at hlen
  rw [ofI_ints] at hsm
  split at h
  case h_2 => cases h
  rename_i bs hbs
  simp only [Option.some.injEq, Prod.mk.injEq, ofI_ints] at h
  obtain ⟨rfl, rfl⟩ := h
  rw [ints_len] at hbs
  generalize hf : (fun i => bs.getD i false) = f
  have hbl := askF_len hbs
  rw [upto_len] at hbl
  refine is.go hm hΓ k_after o_after (by simp [a_after]) ?_
  simp only [a_after, h_Clone, c_Clone, hlen, List.zipIdx_cons, List.zipIdx_nil, ↓SP, SQ, Gam.add, stepM, callC, argC, lendO, nmBy, nmC, likeL, likeB, plainOb, offs, exL, X, F, trP, trO, stepD, stepW, newA, SV.tr, SV.trL, fz, allP, Ob.tr, loadA, cellsA, SV.cells, binA, binI, eqOut, isSl, isPt, natOf, callee, snap, SV.refsL, SV.refs, thaw, fzAll, loA, hiA, elemOf, partsA, buildA, putCells, ↓reduceIte, reduceCtorEq, okCell, Nat.reduceAdd, Nat.reduceEqDiff, Nat.reduceSub, Nat.reduceMul, Nat.reduceLeDiff, Nat.reduceLT, Nat.reduceBEq, PV.scal, PV.scalL, SV.scal, SV.scalL, Ob.scal, PV.isCell, pure', resO]
  refine loop_at (fun s : Nat × SV × SV × SV × SV × SV => mkEnv [(0, .p (.agg [.sl 1 (ints l), .int .i64 m])), (1, .p (.fn g a b)), (2, .bx 2 0), (4, .bx 4 0), (5, .bx 5 0), (6, s.2.1), (7, s.2.2.1), (15, .ar 10), (16, si l.length), (17, si s.1), (18, s.2.2.2.1), (28, s.2.2.2.2.1), (43, s.2.2.2.2.2)]) (fun s => mkO [(2, some (.box [.p (.sl 1 (ints l)), si m])), (4, some (.box [.p .nilsl, si 0])), (5, some (.box [.ar 10, si m])), (10, some (.arr 1 (ints (fillL (afterF f m l) l s.1))))]) (fun s => s.1 ≤ l.length) (fun s => l.length - s.1) (0, .junk, .junk, .junk, .junk, .junk) (by simp) rfl (by simp only [fill_0]) ?_
  rintro ⟨i, c1, c2, c3, c4, c5⟩ hi R hR hN
  simp only at hi
  have hfl := fill_len (afterF f m l) l hi
  by_cases h : i < l.length
  · have h1 : (i : Int) < l.length := by omega
    have hw := wrap_one (i := i) (by omega)
    have hg : (ints (fillL (afterF f m l) l i))[i]? = some (.int .i64 (l.getD i 0)) := by rw [ints_get (by omega), fill_get _ _ _ h]
    have hq := askF_get hbs (upto_get h)
    have hxs : l.getD i 0 ≤ 1000 := by
      have := List.all_eq_true.1 hsm (l.getD i 0) (by rw [getD_lt h]; exact List.getElem_mem h)
      simpa using this
    have hfi : bs.getD i false = f i := by rw [← hf]
    rw [hfi] at hq
    by_cases hx0 : 0 ≤ l.getD i 0
    · cases hb : f i with
      | false =>
        rw [hb] at hq
        have hs : fillL (afterF f m l) l (i + 1) = fillL (afterF f m l) l i := fill_same _ _ 0 h (by simp [afterF, hb])
        simp only [h1, hw, hg, hfl, h, call_ps, refs_ps, hq, hx0, ↓SP, SQ, Gam.add, stepM, callC, argC, lendO, nmBy, nmC, likeL, likeB, plainOb, offs, exL, X, F, trP, trO, stepD, stepW, newA, SV.tr, SV.trL, fz, allP, Ob.tr, loadA, cellsA, SV.cells, binA, binI, eqOut, isSl, isPt, natOf, callee, snap, SV.refsL, SV.refs, thaw, fzAll, loA, hiA, elemOf, partsA, buildA, putCells, ↓reduceIte, reduceCtorEq, okCell, Nat.reduceAdd, Nat.reduceEqDiff, Nat.reduceSub, Nat.reduceMul, Nat.reduceLeDiff, Nat.reduceLT, Nat.reduceBEq, PV.scal, PV.scalL, SV.scal, SV.scalL, Ob.scal, PV.isCell, pure', resO]
        rw [← hs]
        exact hN (i + 1, _, _, _, _, _) _ _ (by simp only; omega) (by simp only; omega) rfl rfl
      | true =>
        rw [hb] at hq
        have hwx : IntKind.i64.wrap (l.getD i 0 + 1) = l.getD i 0 + 1 := wrap64 (by omega) (by omega)
        have hlt : i < (fillL (afterF f m l) l i).length := by omega
        have hg2 : (ints ((fillL (afterF f m l) l i).set i (l.getD i 0 + 1)))[i]? = some (.int .i64 (l.getD i 0 + 1)) := by
          rw [ints_get (by simpa using hlt), getD_lt (by simpa using hlt)]; simp
        by_cases hm1 : m < l.getD i 0 + 1
        · have hs : ((fillL (afterF f m l) l i).set i (l.getD i 0 + 1)).set i (-1) = fillL (afterF f m l) l (i + 1) := by
            rw [List.set_set]; exact fill_set _ _ h (by simp only [afterF, hx0, hb, hm1, and_self, if_true])
          simp only [h1, hw, hg, hfl, h, call_ps, refs_ps, hq, hx0, hwx, ints_set, hg2, hm1, List.length_set, hs, ↓SP, SQ, Gam.add, stepM, callC, argC, lendO, nmBy, nmC, likeL, likeB, plainOb, offs, exL, X, F, trP, trO, stepD, stepW, newA, SV.tr, SV.trL, fz, allP, Ob.tr, loadA, cellsA, SV.cells, binA, binI, eqOut, isSl, isPt, natOf, callee, snap, SV.refsL, SV.refs, thaw, fzAll, loA, hiA, elemOf, partsA, buildA, putCells, ↓reduceIte, reduceCtorEq, okCell, Nat.reduceAdd, Nat.reduceEqDiff, Nat.reduceSub, Nat.reduceMul, Nat.reduceLeDiff, Nat.reduceLT, Nat.reduceBEq, PV.scal, PV.scalL, SV.scal, SV.scalL, Ob.scal, PV.isCell, pure', resO]
          exact hN (i + 1, _, _, _, _, _) _ _ (by simp only; omega) (by simp only; omega) rfl rfl
        · have hs : (fillL (afterF f m l) l i).set i (l.getD i 0 + 1) = fillL (afterF f m l) l (i + 1) := fill_set _ _ h (by simp only [afterF, hx0, hb, hm1, and_self, if_true, if_false])
          rw [hs] at hg2
          have hfl2 := fill_len (afterF f m l) l (i := i + 1) (by omega)
          simp only [h1, hw, hg, hfl, h, call_ps, refs_ps, hq, hx0, hwx, ints_set, hg2, hm1, hs, hfl2, ↓SP, SQ, Gam.add, stepM, callC, argC, lendO, nmBy, nmC, likeL, likeB, plainOb, offs, exL, X, F, trP, trO, stepD, stepW, newA, SV.tr, SV.trL, fz, allP, Ob.tr, loadA, cellsA, SV.cells, binA, binI, eqOut, isSl, isPt, natOf, callee, snap, SV.refsL, SV.refs, thaw, fzAll, loA, hiA, elemOf, partsA, buildA, putCells, ↓reduceIte, reduceCtorEq, okCell, Nat.reduceAdd, Nat.reduceEqDiff, Nat.reduceSub, Nat.reduceMul, Nat.reduceLeDiff, Nat.reduceLT, Nat.reduceBEq, PV.scal, PV.scalL, SV.scal, SV.scalL, Ob.scal, PV.isCell, pure', resO]
          exact hN (i + 1, _, _, _, _, _) _ _ (by simp only; omega) (by simp only; omega) rfl rfl
    · have hs : fillL (afterF f m l) l (i + 1) = fillL (afterF f m l) l i := fill_same _ _ 0 h (by simp only [afterF, hx0, false_and, if_false])
      simp only [h1, hw, hg, hfl, h, hx0, ↓SP, SQ, Gam.add, stepM, callC, argC, lendO, nmBy, nmC, likeL, likeB, plainOb, offs, exL, X, F, trP, trO, stepD, stepW, newA, SV.tr, SV.trL, fz, allP, Ob.tr, loadA, cellsA, SV.cells, binA, binI, eqOut, isSl, isPt, natOf, callee, snap, SV.refsL, SV.refs, thaw, fzAll, loA, hiA, elemOf, partsA, buildA, putCells, ↓reduceIte, reduceCtorEq, okCell, Nat.reduceAdd, Nat.reduceEqDiff, Nat.reduceSub, Nat.reduceMul, Nat.reduceLeDiff, Nat.reduceLT, Nat.reduceBEq, PV.scal, PV.scalL, SV.scal, SV.scalL, Ob.scal, PV.isCell, pure', resO]
      rw [← hs]
      exact hN (i + 1, _, _, _, _, _) _ _ (by simp only; omega) (by simp only; omega) rfl rfl
  · have he : i = l.length := by omega
    have h1 : ¬ (i : Int) < l.length := by omega
    simp only [h1, ↓SP, SQ, Gam.add, stepM, callC, argC, lendO, nmBy, nmC, likeL, likeB, plainOb, offs, exL, X, F, trP, trO, stepD, stepW, newA, SV.tr, SV.trL, fz, allP, Ob.tr, loadA, cellsA, SV.cells, binA, binI, eqOut, isSl, isPt, natOf, callee, snap, SV.refsL, SV.refs, thaw, fzAll, loA, hiA, elemOf, partsA, buildA, putCells, ↓reduceIte, reduceCtorEq, okCell, Nat.reduceAdd, Nat.reduceEqDiff, Nat.reduceSub, Nat.reduceMul, Nat.reduceLeDiff, Nat.reduceLT, Nat.reduceBEq, PV.scal, PV.scalL, SV.scal, SV.scalL, Ob.scal, PV.isCell, pure', resO]
    refine hR _ _ _ (by intro h; cases h) ?_
    simp only [↓SP, SQ, Gam.add, stepM, callC, argC, lendO, nmBy, nmC, likeL, likeB, plainOb, offs, exL, X, F, trP, trO, stepD, stepW, newA, SV.tr, SV.trL, fz, allP, Ob.tr, loadA, cellsA, SV.cells, binA, binI, eqOut, isSl, isPt, natOf, callee, snap, SV.refsL, SV.refs, thaw, fzAll, loA, hiA, elemOf, partsA, buildA, putCells, ↓reduceIte, reduceCtorEq, okCell, Nat.reduceAdd, Nat.reduceEqDiff, Nat.reduceSub, Nat.reduceMul, Nat.reduceLeDiff, Nat.reduceLT, Nat.reduceBEq, PV.scal, PV.scalL, SV.scal, SV.scalL, Ob.scal, PV.isCell, pure', resO]
    subst he
    have hfe := fill_end (afterF f m l) l
    exact finA_gen [10] trivial (by simp [retA, rvA, List.mapM_cons, List.mapM_nil, Option.pure_def, Option.bind_eq_bind, Option.bind_some, Option.map_some, mkE_cons, mk_nil, mkO_cons, mkO_nil, loadA, ↓reduceIte, List.take_succ_cons, List.take_zero, List.drop_zero, List.drop_succ_cons, List.length_cons, List.length_nil, Nat.reduceAdd, Nat.reduceEqDiff, Nat.reduceLeDiff, Nat.zero_add, Nat.le_refl, reduceCtorEq, SV.tr, SV.trL, nmF, rn_nil, rn_cons1, rn_cons2, List.map_cons, List.map_nil, List.all_cons, List.all_nil, plainOb, SV.refsL, SV.refs, Ob.refs, X, F, List.range_succ, List.range_zero, List.nil_append, List.cons_append, List.isEmpty_nil, decide_true, Nat.reduceLT, Bool.and_self, Bool.and_true, and_self, and_true, List.getElem?_cons_zero, List.getElem?_cons_succ, List.nodup_cons, List.nodup_nil, List.mem_cons, List.not_mem_nil, not_false_eq_true, or_false, List.append_nil, mkO, setO_mk, List.mem_singleton]; rfl) (by simp [hfe, afterL, retA, rvA, List.mapM_cons, List.mapM_nil, Option.pure_def, Option.bind_eq_bind, Option.bind_some, Option.map_some, mkE_cons, mk_nil, mkO_cons, mkO_nil, loadA, ↓reduceIte, List.take_succ_cons, List.take_zero, List.drop_zero, List.drop_succ_cons, List.length_cons, List.length_nil, Nat.reduceAdd, Nat.reduceEqDiff, Nat.reduceLeDiff, Nat.zero_add, Nat.le_refl, reduceCtorEq, SV.tr, SV.trL, nmF, rn_nil, rn_cons1, rn_cons2, List.map_cons, List.map_nil, List.all_cons, List.all_nil, plainOb, SV.refsL, SV.refs, Ob.refs, X, F, List.range_succ, List.range_zero, List.nil_append, List.cons_append, List.isEmpty_nil, decide_true, Nat.reduceLT, Bool.and_self, Bool.and_true, and_self, and_true, List.getElem?_cons_zero, List.getElem?_cons_succ, List.nodup_cons, List.nodup_nil, List.mem_cons, List.not_mem_nil, not_false_eq_true, or_false, List.append_nil, mkO, setO_mk, List.mem_singleton]) (by simp [hfe, afterL, retA, rvA, List.mapM_cons, List.mapM_nil, Option.pure_def, Option.bind_eq_bind, Option.bind_some, Option.map_some, mkE_cons, mk_nil, mkO_cons, mkO_nil, loadA, ↓reduceIte, List.take_succ_cons, List.take_zero, List.drop_zero, List.drop_succ_cons, List.length_cons, List.length_nil, Nat.reduceAdd, Nat.reduceEqDiff, Nat.reduceLeDiff, Nat.zero_add, Nat.le_refl, reduceCtorEq, SV.tr, SV.trL, nmF, rn_nil, rn_cons1, rn_cons2, List.map_cons, List.map_nil, List.all_cons, List.all_nil, plainOb, SV.refsL, SV.refs, Ob.refs, X, F, List.range_succ, List.range_zero, List.nil_append, List.cons_append, List.isEmpty_nil, decide_true, Nat.reduceLT, Bool.and_self, Bool.and_true, and_self, and_true, List.getElem?_cons_zero, List.getElem?_cons_succ, List.nodup_cons, List.nodup_nil, List.mem_cons, List.not_mem_nil, not_false_eq_true, or_false, List.append_nil, mkO, setO_mk, List.mem_singleton]) (by simp) (by simp) (by simp [retA, rvA, List.mapM_cons, List.mapM_nil, Option.pure_def, Option.bind_eq_bind, Option.bind_some, Option.map_some, mkE_cons, mk_nil, mkO_cons, mkO_nil, loadA, ↓reduceIte, List.take_succ_cons, List.take_zero, List.drop_zero, List.drop_succ_cons, List.length_cons, List.length_nil, Nat.reduceAdd, Nat.reduceEqDiff, Nat.reduceLeDiff, Nat.zero_add, Nat.le_refl, reduceCtorEq, SV.tr, SV.trL, nmF, rn_nil, rn_cons1, rn_cons2, List.map_cons, List.map_nil, List.all_cons, List.all_nil, plainOb, SV.refsL, SV.refs, Ob.refs, X, F, List.range_succ, List.range_zero, List.nil_append, List.cons_append, List.isEmpty_nil, decide_true, Nat.reduceLT, Bool.and_self, Bool.and_true, and_self, and_true, List.getElem?_cons_zero, List.getElem?_cons_succ, List.nodup_cons, List.nodup_nil, List.mem_cons, List.not_mem_nil, not_false_eq_true, or_false, List.append_nil, mkO, setO_mk, List.mem_singleton]) (by simp [hfe, afterL, retA, rvA, List.mapM_cons, List.mapM_nil, Option.pure_def, Option.bind_eq_bind, Option.bind_some, Option.map_some, mkE_cons, mk_nil, mkO_cons, mkO_nil, loadA, ↓reduceIte, List.take_succ_cons, List.take_zero, List.drop_zero, List.drop_succ_cons, List.length_cons, List.length_nil, Nat.reduceAdd, Nat.reduceEqDiff, Nat.reduceLeDiff, Nat.zero_add, Nat.le_refl, reduceCtorEq, SV.tr, SV.trL, nmF, rn_nil, rn_cons1, rn_cons2, List.map_cons, List.map_nil, List.all_cons, List.all_nil, plainOb, SV.refsL, SV.refs, Ob.refs, X, F, List.range_succ, List.range_zero, List.nil_append, List.cons_append, List.isEmpty_nil, decide_true, Nat.reduceLT, Bool.and_self, Bool.and_true, and_self, and_true, List.getElem?_cons_zero, List.getElem?_cons_succ, List.nodup_cons, List.nodup_nil, List.mem_cons, List.not_mem_nil, not_false_eq_true, or_false, List.append_nil, mkO, setO_mk, List.mem_singleton]) (by simp [hfe, afterL, retA, rvA, List.mapM_cons, List.mapM_nil, Option.pure_def, Option.bind_eq_bind, Option.bind_some, Option.map_some, mkE_cons, mk_nil, mkO_cons, mkO_nil, loadA, ↓reduceIte, List.take_succ_cons, List.take_zero, List.drop_zero, List.drop_succ_cons, List.length_cons, List.length_nil, Nat.reduceAdd, Nat.reduceEqDiff, Nat.reduceLeDiff, Nat.zero_add, Nat.le_refl, reduceCtorEq, SV.tr, SV.trL, nmF, rn_nil, rn_cons1, rn_cons2, List.map_cons, List.map_nil, List.all_cons, List.all_nil, plainOb, SV.refsL, SV.refs, Ob.refs, X, F, List.range_succ, List.range_zero, List.nil_append, List.cons_append, List.isEmpty_nil, decide_true, Nat.reduceLT, Bool.and_self, Bool.and_true, and_self, and_true, List.getElem?_cons_zero, List.getElem?_cons_succ, List.nodup_cons, List.nodup_nil, List.mem_cons, List.not_mem_nil, not_false_eq_true, or_false, List.append_nil, mkO, setO_mk, List.mem_singleton])
def a_l2After (f_l1Own : FuncId) (f_l2False : FuncId) : AFn := ⟨3, 
  .seq (.reg [⟨some 3, none, .w (.box 2 (.t 0))⟩,
    ⟨some 6, none, .w (.alloc [.nilsl, .int .i64 0])⟩])
  (.seq (.dreg [11, 7] [([11, 7], ⟨some 9, none, .d (.fa 0 (.t 3))⟩),
    ([11, 7], ⟨some 10, none, .d (.load false 1 (.t 9))⟩),
    ([7], ⟨some 11, none, .w (.callL (.f f_l1Own) [(.t 10)] [] 1 false)⟩),
    ([11, 7], ⟨some 12, none, .d (.fa 1 (.t 3))⟩),
    ([11, 7], ⟨some 13, none, .d (.load false 1 (.t 12))⟩),
    ([7], ⟨some 14, none, .d (.build [.nilsl, .int .i64 0] [(0, 1, (.t 11)), (1, 1, (.t 13))])⟩),
    ([11], ⟨some 7, none, .w (.alloc [.nilsl, .int .i64 0])⟩)] [⟨none, none, .w (.store 2 (.t 7) (.t 14))⟩])
  (.seq (.seq (.reg [⟨some 8, none, .d (.mv (.c (.int .i64 0)))⟩])
  (.block 0 (.loop (.seq (.seq (.reg [⟨some 15, none, .d (.mv (.t 8))⟩,
      ⟨some 16, none, .d (.fa 0 (.t 7))⟩,
      ⟨some 17, none, .d (.load false 1 (.t 16))⟩,
      ⟨some 18, none, .d (.len (.t 17))⟩,
      ⟨some 19, none, .d (.bin .arith .lss (.t 15) (.t 18))⟩])
    (.cond (.t 19) (.skip) (.exit 0)))
    (.seq (.block 1 (.seq (.reg [⟨some 22, none, .d (.fa 0 (.t 7))⟩,
       ⟨some 23, none, .d (.load false 1 (.t 22))⟩,
       ⟨some 24, none, .d (.mv (.t 8))⟩,
       ⟨some 25, none, .d (.ia 1 (.t 23) (.t 24))⟩,
       ⟨some 26, none, .d (.load false 1 (.t 25))⟩,
       ⟨some 27, none, .d (.bin .arith .geq (.t 26) (.c (.int .i64 0)))⟩,
       ⟨some 28, none, .d (.mv (.t 27))⟩,
       ⟨some 29, some (28, true), .d (.mv (.t 1))⟩,
       ⟨some 30, some (28, true), .d (.mv (.t 2))⟩,
       ⟨some 31, some (28, true), .d (.mv (.t 8))⟩,
       ⟨some 32, some (28, true), .d (.call (.f f_l2False) [(.t 29), (.t 30), (.t 31)])⟩,
       ⟨some 33, none, .d (.pick (.t 28) (.t 32) (.c (.bool false)))⟩])
     (.cond (.t 33) (.seq (.reg [⟨some 34, none, .d (.fa 0 (.t 7))⟩,
        ⟨some 35, none, .d (.load false 1 (.t 34))⟩,
        ⟨some 36, none, .d (.mv (.t 8))⟩,
        ⟨some 37, none, .d (.ia 1 (.t 35) (.t 36))⟩,
        ⟨some 38, none, .d (.load false 1 (.t 37))⟩,
        ⟨some 39, none, .d (.bin .arith .add (.t 38) (.c (.int .i64 1)))⟩,
        ⟨some 40, none, .d (.ia 1 (.t 35) (.t 36))⟩,
        ⟨none, none, .w (.store 1 (.t 40) (.t 39))⟩])
      (.seq (.dreg [] [([], ⟨some 41, none, .d (.fa 0 (.t 7))⟩),
        ([], ⟨some 42, none, .d (.load false 1 (.t 41))⟩),
        ([], ⟨some 43, none, .d (.mv (.t 8))⟩),
        ([], ⟨some 44, none, .d (.ia 1 (.t 42) (.t 43))⟩),
        ([], ⟨some 45, none, .d (.load false 1 (.t 44))⟩),
        ([], ⟨some 46, none, .d (.fa 1 (.t 3))⟩),
        ([], ⟨some 47, none, .d (.load false 1 (.t 46))⟩)] [⟨some 48, none, .d (.bin .arith .gtr (.t 45) (.t 47))⟩])
      (.cond (.t 48) (.reg [⟨some 49, none, .d (.fa 0 (.t 7))⟩,
         ⟨some 50, none, .d (.load false 1 (.t 49))⟩,
         ⟨some 51, none, .d (.mv (.t 8))⟩,
         ⟨some 52, none, .d (.ia 1 (.t 50) (.t 51))⟩,
         ⟨none, none, .w (.store 1 (.t 52) (.c (.int .i64 (-1))))⟩]) (.skip)))) (.skip))))
    (.reg [⟨some 20, none, .d (.mv (.t 8))⟩,
      ⟨some 21, none, .d (.bin .arith .add (.t 20) (.c (.int .i64 1)))⟩,
      ⟨some 8, none, .d (.mv (.t 21))⟩]))))))
  (.seq (.reg [⟨some 53, none, .d (.load true 2 (.t 7))⟩,
    ⟨none, none, .w (.store 2 (.t 6) (.t 53))⟩])
  (.ret)))), [.cell 6 2 true]⟩
def n_l2After : Nat → Option Ann := fun d => if d = 11 then some ⟨[], 1, false⟩ else none
abbrev k_l2After : List Nat := [0, 1, 2, 3, 6, 7, 8, 19, 33, 48]
abbrev o_l2After : List Nat := [3, 6, 7, 11]
def c_l2After : Con := pure' fun
  | [.p (.agg [.sl 1 l_, .int .i64 m]), .p (.int .i64 q), .p (.bool y)] => if isI l_ = true ∧ ((ofI l_).length ≤ 1100000 ∧ ((ofI l_).all fun x => decide (x ≤ 1000)) = true) then some (.ag [.ar 2000000, .p (.int .i64 m)], [.arr 1 (ints (afterL (fun i => (bitW q i == 1) != y) m (ofI l_)))]) else none
  | _ => none
theorem s_l2After {P : Program} (hm : P.follows .mixedOrders = true) {Γ : Gam} (hΓ : GS P Γ) {n : FuncId} {f_l1Own : FuncId} {f_l2False : FuncId} (is : Is P n (a_l2After f_l1Own f_l2False)) (h_l1Own : Γ f_l1Own = c_Clone) (h_l2False : Γ f_l2False = c_l2False)  : Says P n c_l2After := by
  refine Says.pure fun args r fs h => ?_
  split at h
  case h_2 => cases h
  rename_i l_ m q y
  split at h
  case isFalse => cases h
  rename_i hc
  obtain ⟨hl_, hc⟩ := hc
  obtain ⟨l, rfl⟩ := isI_out hl_
  simp only [ofI_ints, ofBo_bools, ofAs_asks, Option.some.injEq, Prod.mk.injEq] at h hc
  obtain ⟨rfl, rfl⟩ := h
  obtain ⟨hlen, hsm⟩ := hc
  generalize hf : (fun i : Nat => (bitW q i == 1) != y) = f
  refine is.go hm hΓ k_l2After o_l2After (by simp [a_l2After]) ?_
  simp only [a_l2After, h_l1Own, c_Clone, h_l2False, c_l2False, hlen, List.zipIdx_cons, List.zipIdx_nil, ↓SP, SQ, Gam.add, stepM, callC, argC, lendO, nmBy, nmC, likeL, likeB, plainOb, offs, exL, X, F, trP, trO, stepD, stepW, newA, SV.tr, SV.trL, fz, allP, Ob.tr, loadA, cellsA, SV.cells, binA, binI, eqOut, isSl, isPt, natOf, callee, snap, SV.refsL, SV.refs, thaw, fzAll, loA, hiA, elemOf, partsA, buildA, putCells, ↓reduceIte, reduceCtorEq, okCell, Nat.reduceAdd, Nat.reduceEqDiff, Nat.reduceSub, Nat.reduceMul, Nat.reduceLeDiff, Nat.reduceLT, Nat.reduceBEq, PV.scal, PV.scalL, SV.scal, SV.scalL, Ob.scal, PV.isCell, pure', resO]
  refine loop_at (fun s : Nat × SV × SV × SV => mkEnv [(0, .p (.agg [.sl 1 (ints l), .int .i64 m])), (1, si q), (2, sb y), (3, .bx 3 0), (6, .bx 6 0), (7, .bx 7 0), (8, si s.1), (19, s.2.1), (33, s.2.2.1), (48, s.2.2.2)]) (fun s => mkO [(3, some (.box [.p (.sl 1 (ints l)), si m])), (6, some (.box [.p .nilsl, si 0])), (7, some (.box [.ar 11, si m])), (11, some (.arr 1 (ints (fillL (afterF f m l) l s.1))))]) (fun s => s.1 ≤ l.length) (fun s => l.length - s.1) (0, .junk, .junk, .junk) (by simp) rfl (by simp only [fill_0]) ?_
  rintro ⟨i, c1, c2, c3⟩ hi R hR hN
  simp only at hi
  have hfl := fill_len (afterF f m l) l hi
  by_cases h : i < l.length
  · have h1 : (i : Int) < l.length := by omega
    have hw := wrap_one (i := i) (by omega)
    have hg : (ints (fillL (afterF f m l) l i))[i]? = some (.int .i64 (l.getD i 0)) := by rw [ints_get (by omega), fill_get _ _ _ h]
    have hxs : l.getD i 0 ≤ 1000 := by
      have := List.all_eq_true.1 hsm (l.getD i 0) (by rw [getD_lt h]; exact List.getElem_mem h)
      simpa using this
    have hi0 : (0 : Int) ≤ i := by omega
    have hfi : ((bitW q i == 1) != y) = f i := by rw [← hf]
    by_cases hx0 : 0 ≤ l.getD i 0
    · cases hb : f i with
      | false =>
        rw [hb] at hfi
        have hs : fillL (afterF f m l) l (i + 1) = fillL (afterF f m l) l i := fill_same _ _ 0 h (by simp [afterF, hb])
        simp only [h1, hw, hg, hfl, h, hfi, hi0, hx0, h_l2False, c_l2False, ↓SP, SQ, Gam.add, stepM, callC, argC, lendO, nmBy, nmC, likeL, likeB, plainOb, offs, exL, X, F, trP, trO, stepD, stepW, newA, SV.tr, SV.trL, fz, allP, Ob.tr, loadA, cellsA, SV.cells, binA, binI, eqOut, isSl, isPt, natOf, callee, snap, SV.refsL, SV.refs, thaw, fzAll, loA, hiA, elemOf, partsA, buildA, putCells, ↓reduceIte, reduceCtorEq, okCell, Nat.reduceAdd, Nat.reduceEqDiff, Nat.reduceSub, Nat.reduceMul, Nat.reduceLeDiff, Nat.reduceLT, Nat.reduceBEq, PV.scal, PV.scalL, SV.scal, SV.scalL, Ob.scal, PV.isCell, pure', resO]
        rw [← hs]
        exact hN (i + 1, _, _, _) _ _ (by simp only; omega) (by simp only; omega) rfl rfl
      | true =>
        rw [hb] at hfi
        have hwx : IntKind.i64.wrap (l.getD i 0 + 1) = l.getD i 0 + 1 := wrap64 (by omega) (by omega)
        have hlt : i < (fillL (afterF f m l) l i).length := by omega
        have hg2 : (ints ((fillL (afterF f m l) l i).set i (l.getD i 0 + 1)))[i]? = some (.int .i64 (l.getD i 0 + 1)) := by
          rw [ints_get (by simpa using hlt), getD_lt (by simpa using hlt)]; simp
        by_cases hm1 : m < l.getD i 0 + 1
        · have hs : ((fillL (afterF f m l) l i).set i (l.getD i 0 + 1)).set i (-1) = fillL (afterF f m l) l (i + 1) := by
            rw [List.set_set]; exact fill_set _ _ h (by simp only [afterF, hx0, hb, hm1, and_self, if_true])
          simp only [h1, hw, hg, hfl, h, hfi, hi0, hx0, h_l2False, c_l2False, hwx, ints_set, hg2, hm1, List.length_set, hs, ↓SP, SQ, Gam.add, stepM, callC, argC, lendO, nmBy, nmC, likeL, likeB, plainOb, offs, exL, X, F, trP, trO, stepD, stepW, newA, SV.tr, SV.trL, fz, allP, Ob.tr, loadA, cellsA, SV.cells, binA, binI, eqOut, isSl, isPt, natOf, callee, snap, SV.refsL, SV.refs, thaw, fzAll, loA, hiA, elemOf, partsA, buildA, putCells, ↓reduceIte, reduceCtorEq, okCell, Nat.reduceAdd, Nat.reduceEqDiff, Nat.reduceSub, Nat.reduceMul, Nat.reduceLeDiff, Nat.reduceLT, Nat.reduceBEq, PV.scal, PV.scalL, SV.scal, SV.scalL, Ob.scal, PV.isCell, pure', resO]
          exact hN (i + 1, _, _, _) _ _ (by simp only; omega) (by simp only; omega) rfl rfl
        · have hs : (fillL (afterF f m l) l i).set i (l.getD i 0 + 1) = fillL (afterF f m l) l (i + 1) := fill_set _ _ h (by simp only [afterF, hx0, hb, hm1, and_self, if_true, if_false])
          rw [hs] at hg2
          have hfl2 := fill_len (afterF f m l) l (i := i + 1) (by omega)
          simp only [h1, hw, hg, hfl, h, hfi, hi0, hx0, h_l2False, c_l2False, hwx, ints_set, hg2, hm1, hs, hfl2, ↓SP, SQ, Gam.add, stepM, callC, argC, lendO, nmBy, nmC, likeL, likeB, plainOb, offs, exL, X, F, trP, trO, stepD, stepW, newA, SV.tr, SV.trL, fz, allP, Ob.tr, loadA, cellsA, SV.cells, binA, binI, eqOut, isSl, isPt, natOf, callee, snap, SV.refsL, SV.refs, thaw, fzAll, loA, hiA, elemOf, partsA, buildA, putCells, ↓reduceIte, reduceCtorEq, okCell, Nat.reduceAdd, Nat.reduceEqDiff, Nat.reduceSub, Nat.reduceMul, Nat.reduceLeDiff, Nat.reduceLT, Nat.reduceBEq, PV.scal, PV.scalL, SV.scal, SV.scalL, Ob.scal, PV.isCell, pure', resO]
          exact hN (i + 1, _, _, _) _ _ (by simp only; omega) (by simp only; omega) rfl rfl
    · have hs : fillL (afterF f m l) l (i + 1) = fillL (afterF f m l) l i := fill_same _ _ 0 h (by simp only [afterF, hx0, false_and, if_false])
      simp only [h1, hw, hg, hfl, h, hx0, ↓SP, SQ, Gam.add, stepM, callC, argC, lendO, nmBy, nmC, likeL, likeB, plainOb, offs, exL, X, F, trP, trO, stepD, stepW, newA, SV.tr, SV.trL, fz, allP, Ob.tr, loadA, cellsA, SV.cells, binA, binI, eqOut, isSl, isPt, natOf, callee, snap, SV.refsL, SV.refs, thaw, fzAll, loA, hiA, elemOf, partsA, buildA, putCells, ↓reduceIte, reduceCtorEq, okCell, Nat.reduceAdd, Nat.reduceEqDiff, Nat.reduceSub, Nat.reduceMul, Nat.reduceLeDiff, Nat.reduceLT, Nat.reduceBEq, PV.scal, PV.scalL, SV.scal, SV.scalL, Ob.scal, PV.isCell, pure', resO]
      rw [← hs]
      exact hN (i + 1, _, _, _) _ _ (by simp only; omega) (by simp only; omega) rfl rfl
  · have he : i = l.length := by omega
    have h1 : ¬ (i : Int) < l.length := by omega
    simp only [h1, hfl, ↓SP, SQ, Gam.add, stepM, callC, argC, lendO, nmBy, nmC, likeL, likeB, plainOb, offs, exL, X, F, trP, trO, stepD, stepW, newA, SV.tr, SV.trL, fz, allP, Ob.tr, loadA, cellsA, SV.cells, binA, binI, eqOut, isSl, isPt, natOf, callee, snap, SV.refsL, SV.refs, thaw, fzAll, loA, hiA, elemOf, partsA, buildA, putCells, ↓reduceIte, reduceCtorEq, okCell, Nat.reduceAdd, Nat.reduceEqDiff, Nat.reduceSub, Nat.reduceMul, Nat.reduceLeDiff, Nat.reduceLT, Nat.reduceBEq, PV.scal, PV.scalL, SV.scal, SV.scalL, Ob.scal, PV.isCell, pure', resO]
    refine hR _ _ _ (by intro h; cases h) ?_
    simp only [↓SP, SQ, Gam.add, stepM, callC, argC, lendO, nmBy, nmC, likeL, likeB, plainOb, offs, exL, X, F, trP, trO, stepD, stepW, newA, SV.tr, SV.trL, fz, allP, Ob.tr, loadA, cellsA, SV.cells, binA, binI, eqOut, isSl, isPt, natOf, callee, snap, SV.refsL, SV.refs, thaw, fzAll, loA, hiA, elemOf, partsA, buildA, putCells, ↓reduceIte, reduceCtorEq, okCell, Nat.reduceAdd, Nat.reduceEqDiff, Nat.reduceSub, Nat.reduceMul, Nat.reduceLeDiff, Nat.reduceLT, Nat.reduceBEq, PV.scal, PV.scalL, SV.scal, SV.scalL, Ob.scal, PV.isCell, pure', resO]
    subst he
    have hfe := fill_end (afterF f m l) l
    exact finA_gen [11] trivial (by simp [retA, rvA, List.mapM_cons, List.mapM_nil, Option.pure_def, Option.bind_eq_bind, Option.bind_some, Option.map_some, mkE_cons, mk_nil, mkO_cons, mkO_nil, loadA, ↓reduceIte, List.take_succ_cons, List.take_zero, List.drop_zero, List.drop_succ_cons, List.length_cons, List.length_nil, Nat.reduceAdd, Nat.reduceEqDiff, Nat.reduceLeDiff, Nat.zero_add, Nat.le_refl, reduceCtorEq, SV.tr, SV.trL, nmF, rn_nil, rn_cons1, rn_cons2, List.map_cons, List.map_nil, List.all_cons, List.all_nil, plainOb, SV.refsL, SV.refs, Ob.refs, X, F, List.range_succ, List.range_zero, List.nil_append, List.cons_append, List.isEmpty_nil, decide_true, Nat.reduceLT, Bool.and_self, Bool.and_true, and_self, and_true, List.getElem?_cons_zero, List.getElem?_cons_succ, List.nodup_cons, List.nodup_nil, List.mem_cons, List.not_mem_nil, not_false_eq_true, or_false, List.append_nil, mkO, setO_mk, List.mem_singleton]; rfl) (by simp [hfe, afterL, retA, rvA, List.mapM_cons, List.mapM_nil, Option.pure_def, Option.bind_eq_bind, Option.bind_some, Option.map_some, mkE_cons, mk_nil, mkO_cons, mkO_nil, loadA, ↓reduceIte, List.take_succ_cons, List.take_zero, List.drop_zero, List.drop_succ_cons, List.length_cons, List.length_nil, Nat.reduceAdd, Nat.reduceEqDiff, Nat.reduceLeDiff, Nat.zero_add, Nat.le_refl, reduceCtorEq, SV.tr, SV.trL, nmF, rn_nil, rn_cons1, rn_cons2, List.map_cons, List.map_nil, List.all_cons, List.all_nil, plainOb, SV.refsL, SV.refs, Ob.refs, X, F, List.range_succ, List.range_zero, List.nil_append, List.cons_append, List.isEmpty_nil, decide_true, Nat.reduceLT, Bool.and_self, Bool.and_true, and_self, and_true, List.getElem?_cons_zero, List.getElem?_cons_succ, List.nodup_cons, List.nodup_nil, List.mem_cons, List.not_mem_nil, not_false_eq_true, or_false, List.append_nil, mkO, setO_mk, List.mem_singleton]) (by simp [hfe, afterL, retA, rvA, List.mapM_cons, List.mapM_nil, Option.pure_def, Option.bind_eq_bind, Option.bind_some, Option.map_some, mkE_cons, mk_nil, mkO_cons, mkO_nil, loadA, ↓reduceIte, List.take_succ_cons, List.take_zero, List.drop_zero, List.drop_succ_cons, List.length_cons, List.length_nil, Nat.reduceAdd, Nat.reduceEqDiff, Nat.reduceLeDiff, Nat.zero_add, Nat.le_refl, reduceCtorEq, SV.tr, SV.trL, nmF, rn_nil, rn_cons1, rn_cons2, List.map_cons, List.map_nil, List.all_cons, List.all_nil, plainOb, SV.refsL, SV.refs, Ob.refs, X, F, List.range_succ, List.range_zero, List.nil_append, List.cons_append, List.isEmpty_nil, decide_true, Nat.reduceLT, Bool.and_self, Bool.and_true, and_self, and_true, List.getElem?_cons_zero, List.getElem?_cons_succ, List.nodup_cons, List.nodup_nil, List.mem_cons, List.not_mem_nil, not_false_eq_true, or_false, List.append_nil, mkO, setO_mk, List.mem_singleton]) (by simp) (by simp) (by simp [retA, rvA, List.mapM_cons, List.mapM_nil, Option.pure_def, Option.bind_eq_bind, Option.bind_some, Option.map_some, mkE_cons, mk_nil, mkO_cons, mkO_nil, loadA, ↓reduceIte, List.take_succ_cons, List.take_zero, List.drop_zero, List.drop_succ_cons, List.length_cons, List.length_nil, Nat.reduceAdd, Nat.reduceEqDiff, Nat.reduceLeDiff, Nat.zero_add, Nat.le_refl, reduceCtorEq, SV.tr, SV.trL, nmF, rn_nil, rn_cons1, rn_cons2, List.map_cons, List.map_nil, List.all_cons, List.all_nil, plainOb, SV.refsL, SV.refs, Ob.refs, X, F, List.range_succ, List.range_zero, List.nil_append, List.cons_append, List.isEmpty_nil, decide_true, Nat.reduceLT, Bool.and_self, Bool.and_true, and_self, and_true, List.getElem?_cons_zero, List.getElem?_cons_succ, List.nodup_cons, List.nodup_nil, List.mem_cons, List.not_mem_nil, not_false_eq_true, or_false, List.append_nil, mkO, setO_mk, List.mem_singleton]) (by simp [hfe, afterL, retA, rvA, List.mapM_cons, List.mapM_nil, Option.pure_def, Option.bind_eq_bind, Option.bind_some, Option.map_some, mkE_cons, mk_nil, mkO_cons, mkO_nil, loadA, ↓reduceIte, List.take_succ_cons, List.take_zero, List.drop_zero, List.drop_succ_cons, List.length_cons, List.length_nil, Nat.reduceAdd, Nat.reduceEqDiff, Nat.reduceLeDiff, Nat.zero_add, Nat.le_refl, reduceCtorEq, SV.tr, SV.trL, nmF, rn_nil, rn_cons1, rn_cons2, List.map_cons, List.map_nil, List.all_cons, List.all_nil, plainOb, SV.refsL, SV.refs, Ob.refs, X, F, List.range_succ, List.range_zero, List.nil_append, List.cons_append, List.isEmpty_nil, decide_true, Nat.reduceLT, Bool.and_self, Bool.and_true, and_self, and_true, List.getElem?_cons_zero, List.getElem?_cons_succ, List.nodup_cons, List.nodup_nil, List.mem_cons, List.not_mem_nil, not_false_eq_true, or_false, List.append_nil, mkO, setO_mk, List.mem_singleton]) (by simp [hfe, afterL, retA, rvA, List.mapM_cons, List.mapM_nil, Option.pure_def, Option.bind_eq_bind, Option.bind_some, Option.map_some, mkE_cons, mk_nil, mkO_cons, mkO_nil, loadA, ↓reduceIte, List.take_succ_cons, List.take_zero, List.drop_zero, List.drop_succ_cons, List.length_cons, List.length_nil, Nat.reduceAdd, Nat.reduceEqDiff, Nat.reduceLeDiff, Nat.zero_add, Nat.le_refl, reduceCtorEq, SV.tr, SV.trL, nmF, rn_nil, rn_cons1, rn_cons2, List.map_cons, List.map_nil, List.all_cons, List.all_nil, plainOb, SV.refsL, SV.refs, Ob.refs, X, F, List.range_succ, List.range_zero, List.nil_append, List.cons_append, List.isEmpty_nil, decide_true, Nat.reduceLT, Bool.and_self, Bool.and_true, and_self, and_true, List.getElem?_cons_zero, List.getElem?_cons_succ, List.nodup_cons, List.nodup_nil, List.mem_cons, List.not_mem_nil, not_false_eq_true, or_false, List.append_nil, mkO, setO_mk, List.mem_singleton])
theorem afterL_congr {f g : Nat → Bool} {m : Int} {l : List Int} (h : ∀ i, i < l.length → f i = g i) : afterL f m l = afterL g m l :=
  List.map_congr_left fun i hi => by simp only [afterF, h i (List.mem_range.1 hi)]
theorem upto_map (n : Nat) : upto n = (List.range n).map fun i : Nat => PV.int .i64 (i : Int) := by simp [upto, ints]
theorem map_getD {n i : Nat} (f : Nat → Bool) (h : i < n) : ((List.range n).map f).getD i false = f i := by simp [h]
def a_answered (f_isFalse : FuncId) (f_after : FuncId) : AFn := ⟨2, 
  .seq (.reg [⟨some 2, none, .w (.box 2 (.t 0))⟩,
    ⟨some 3, none, .w (.box 2 (.t 1))⟩,
    ⟨some 4, none, .w (.alloc [.nilsl, .int .i64 0])⟩])
  (.seq (.reg [⟨some 5, none, .d (.load true 2 (.t 2))⟩,
    ⟨some 6, none, .d (.load true 2 (.t 3))⟩,
    ⟨some 7, none, .d (.mkfn f_isFalse [(.t 6)] [])⟩,
    ⟨some 8, none, .w (.callL (.f f_after) [(.t 5), (.t 7)] [] 1 false)⟩,
    ⟨none, none, .w (.store 2 (.t 4) (.t 8))⟩])
  (.ret)), [.cell 4 2 true]⟩
def n_answered : Nat → Option Ann := fun d => if d = 8 then some ⟨[], 1, false⟩ else none
abbrev k_answered : List Nat := [0, 1, 2, 3, 4]
abbrev o_answered : List Nat := [2, 3, 4, 8]
def c_answered : Con := pure' fun
  | [.p (.agg [.sl 1 l_, .int .i64 m]), .p (.agg [.int .i64 q, .bool y])] => if isI l_ = true ∧ ((ofI l_).length ≤ 1100000 ∧ ((ofI l_).all fun x => decide (x ≤ 1000)) = true) then some (.ag [.ar 2000000, .p (.int .i64 m)], [.arr 1 (ints (afterL (fun i => (bitW q i == 1) != y) m (ofI l_)))]) else none
  | _ => none
theorem s_answered {P : Program} (hm : P.follows .mixedOrders = true) {Γ : Gam} (hΓ : GS P Γ) {n : FuncId} {f_isFalse : FuncId} {f_after : FuncId} (is : Is P n (a_answered f_isFalse f_after)) {Γ0 : Gam} (h_after : Γ f_after = c_after Γ0) (h_isFalse : Γ0 f_isFalse = c_isFalse) : Says P n c_answered := by
  refine Says.pure fun args r fs h => ?_
  split at h
  case h_2 => cases h
  rename_i l_ m q y
  split at h
  case isFalse => cases h
  rename_i hc
  obtain ⟨hl_, hc⟩ := hc
  obtain ⟨l, rfl⟩ := isI_out hl_
  simp only [ofI_ints, ofBo_bools, ofAs_asks, Option.some.injEq, Prod.mk.injEq] at h hc
  obtain ⟨rfl, rfl⟩ := h
  have hask : askF Γ0 f_isFalse [.agg [.int .i64 q, .bool y]] [] (upto l.length) = some ((List.range l.length).map fun i : Nat => (bitW q i == 1) != y) := by
    rw [upto_map]
    exact askF_eq fun i _ => by
      rw [h_isFalse]
      simp [c_isFalse, pure']
  have hcg : afterL (fun i => ((List.range l.length).map fun i : Nat => (bitW q i == 1) != y).getD i false) m l = afterL (fun i => (bitW q i == 1) != y) m l := afterL_congr fun i hi => map_getD _ hi
  refine is.go hm hΓ k_answered o_answered (by simp [a_answered]) ?_
  simp only [a_answered, h_after, c_after, hc, hask, hcg, List.zipIdx_cons, List.zipIdx_nil, ↓SP, SQ, Gam.add, stepM, callC, argC, lendO, nmBy, nmC, likeL, likeB, plainOb, offs, exL, X, F, trP, trO, stepD, stepW, newA, SV.tr, SV.trL, fz, allP, Ob.tr, loadA, cellsA, SV.cells, binA, binI, eqOut, isSl, isPt, natOf, callee, snap, SV.refsL, SV.refs, thaw, fzAll, loA, hiA, elemOf, partsA, buildA, putCells, ↓reduceIte, reduceCtorEq, okCell, Nat.reduceAdd, Nat.reduceEqDiff, Nat.reduceSub, Nat.reduceMul, Nat.reduceLeDiff, Nat.reduceLT, Nat.reduceBEq, PV.scal, PV.scalL, SV.scal, SV.scalL, Ob.scal, PV.isCell, pure', resO]
  exact finA_gen [8] trivial (by simp [retA, rvA, List.mapM_cons, List.mapM_nil, Option.pure_def, Option.bind_eq_bind, Option.bind_some, Option.map_some, mkE_cons, mk_nil, mkO_cons, mkO_nil, loadA, ↓reduceIte, List.take_succ_cons, List.take_zero, List.drop_zero, List.drop_succ_cons, List.length_cons, List.length_nil, Nat.reduceAdd, Nat.reduceEqDiff, Nat.reduceLeDiff, Nat.zero_add, Nat.le_refl, reduceCtorEq, SV.tr, SV.trL, nmF, rn_nil, rn_cons1, rn_cons2, List.map_cons, List.map_nil, List.all_cons, List.all_nil, plainOb, SV.refsL, SV.refs, Ob.refs, X, F, List.range_succ, List.range_zero, List.nil_append, List.cons_append, List.isEmpty_nil, decide_true, Nat.reduceLT, Bool.and_self, Bool.and_true, and_self, and_true, List.getElem?_cons_zero, List.getElem?_cons_succ, List.nodup_cons, List.nodup_nil, List.mem_cons, List.not_mem_nil, not_false_eq_true, or_false, List.append_nil, mkO, setO_mk, List.mem_singleton]; rfl) (by simp [retA, rvA, List.mapM_cons, List.mapM_nil, Option.pure_def, Option.bind_eq_bind, Option.bind_some, Option.map_some, mkE_cons, mk_nil, mkO_cons, mkO_nil, loadA, ↓reduceIte, List.take_succ_cons, List.take_zero, List.drop_zero, List.drop_succ_cons, List.length_cons, List.length_nil, Nat.reduceAdd, Nat.reduceEqDiff, Nat.reduceLeDiff, Nat.zero_add, Nat.le_refl, reduceCtorEq, SV.tr, SV.trL, nmF, rn_nil, rn_cons1, rn_cons2, List.map_cons, List.map_nil, List.all_cons, List.all_nil, plainOb, SV.refsL, SV.refs, Ob.refs, X, F, List.range_succ, List.range_zero, List.nil_append, List.cons_append, List.isEmpty_nil, decide_true, Nat.reduceLT, Bool.and_self, Bool.and_true, and_self, and_true, List.getElem?_cons_zero, List.getElem?_cons_succ, List.nodup_cons, List.nodup_nil, List.mem_cons, List.not_mem_nil, not_false_eq_true, or_false, List.append_nil, mkO, setO_mk, List.mem_singleton]) (by simp [retA, rvA, List.mapM_cons, List.mapM_nil, Option.pure_def, Option.bind_eq_bind, Option.bind_some, Option.map_some, mkE_cons, mk_nil, mkO_cons, mkO_nil, loadA, ↓reduceIte, List.take_succ_cons, List.take_zero, List.drop_zero, List.drop_succ_cons, List.length_cons, List.length_nil, Nat.reduceAdd, Nat.reduceEqDiff, Nat.reduceLeDiff, Nat.zero_add, Nat.le_refl, reduceCtorEq, SV.tr, SV.trL, nmF, rn_nil, rn_cons1, rn_cons2, List.map_cons, List.map_nil, List.all_cons, List.all_nil, plainOb, SV.refsL, SV.refs, Ob.refs, X, F, List.range_succ, List.range_zero, List.nil_append, List.cons_append, List.isEmpty_nil, decide_true, Nat.reduceLT, Bool.and_self, Bool.and_true, and_self, and_true, List.getElem?_cons_zero, List.getElem?_cons_succ, List.nodup_cons, List.nodup_nil, List.mem_cons, List.not_mem_nil, not_false_eq_true, or_false, List.append_nil, mkO, setO_mk, List.mem_singleton]) (by simp) (by simp) (by simp [retA, rvA, List.mapM_cons, List.mapM_nil, Option.pure_def, Option.bind_eq_bind, Option.bind_some, Option.map_some, mkE_cons, mk_nil, mkO_cons, mkO_nil, loadA, ↓reduceIte, List.take_succ_cons, List.take_zero, List.drop_zero, List.drop_succ_cons, List.length_cons, List.length_nil, Nat.reduceAdd, Nat.reduceEqDiff, Nat.reduceLeDiff, Nat.zero_add, Nat.le_refl, reduceCtorEq, SV.tr, SV.trL, nmF, rn_nil, rn_cons1, rn_cons2, List.map_cons, List.map_nil, List.all_cons, List.all_nil, plainOb, SV.refsL, SV.refs, Ob.refs, X, F, List.range_succ, List.range_zero, List.nil_append, List.cons_append, List.isEmpty_nil, decide_true, Nat.reduceLT, Bool.and_self, Bool.and_true, and_self, and_true, List.getElem?_cons_zero, List.getElem?_cons_succ, List.nodup_cons, List.nodup_nil, List.mem_cons, List.not_mem_nil, not_false_eq_true, or_false, List.append_nil, mkO, setO_mk, List.mem_singleton]) (by simp [retA, rvA, List.mapM_cons, List.mapM_nil, Option.pure_def, Option.bind_eq_bind, Option.bind_some, Option.map_some, mkE_cons, mk_nil, mkO_cons, mkO_nil, loadA, ↓reduceIte, List.take_succ_cons, List.take_zero, List.drop_zero, List.drop_succ_cons, List.length_cons, List.length_nil, Nat.reduceAdd, Nat.reduceEqDiff, Nat.reduceLeDiff, Nat.zero_add, Nat.le_refl, reduceCtorEq, SV.tr, SV.trL, nmF, rn_nil, rn_cons1, rn_cons2, List.map_cons, List.map_nil, List.all_cons, List.all_nil, plainOb, SV.refsL, SV.refs, Ob.refs, X, F, List.range_succ, List.range_zero, List.nil_append, List.cons_append, List.isEmpty_nil, decide_true, Nat.reduceLT, Bool.and_self, Bool.and_true, and_self, and_true, List.getElem?_cons_zero, List.getElem?_cons_succ, List.nodup_cons, List.nodup_nil, List.mem_cons, List.not_mem_nil, not_false_eq_true, or_false, List.append_nil, mkO, setO_mk, List.mem_singleton]) (by simp [retA, rvA, List.mapM_cons, List.mapM_nil, Option.pure_def, Option.bind_eq_bind, Option.bind_some, Option.map_some, mkE_cons, mk_nil, mkO_cons, mkO_nil, loadA, ↓reduceIte, List.take_succ_cons, List.take_zero, List.drop_zero, List.drop_succ_cons, List.length_cons, List.length_nil, Nat.reduceAdd, Nat.reduceEqDiff, Nat.reduceLeDiff, Nat.zero_add, Nat.le_refl, reduceCtorEq, SV.tr, SV.trL, nmF, rn_nil, rn_cons1, rn_cons2, List.map_cons, List.map_nil, List.all_cons, List.all_nil, plainOb, SV.refsL, SV.refs, Ob.refs, X, F, List.range_succ, List.range_zero, List.nil_append, List.cons_append, List.isEmpty_nil, decide_true, Nat.reduceLT, Bool.and_self, Bool.and_true, and_self, and_true, List.getElem?_cons_zero, List.getElem?_cons_succ, List.nodup_cons, List.nodup_nil, List.mem_cons, List.not_mem_nil, not_false_eq_true, or_false, List.append_nil, mkO, setO_mk, List.mem_singleton])
theorem isSt_small {l : List Int} {m : Int} (h : isSt l m = true) : (l.all fun x => decide (x ≤ 1000)) = true := by
  simp only [isSt, Bool.and_eq_true, List.all_eq_true, decide_eq_true_eq] at h ⊢
  intro x hx
  have := (h.2 x hx).2
  omega
theorem slI_lenP {v : PV} {l : List Int} (h : slI v = some l) : lenP v = some l.length := by
  rcases slI_out h with rfl | ⟨rfl, rfl⟩ <;> simp [lenP, ints_len]
def a_areListed1 (f_isQuestion : FuncId) : AFn := ⟨2, 
  .seq (.reg [⟨some 3, none, .d (.mv (.c (.bool false)))⟩])
  (.seq (.reg [⟨some 4, none, .d (.fa 0 (.t 1))⟩,
    ⟨some 5, none, .d (.load false 1 (.t 4))⟩,
    ⟨some 6, none, .d (.len (.t 5))⟩,
    ⟨some 7, none, .d (.mv (.t 0))⟩,
    ⟨some 8, none, .d (.call (.f f_isQuestion) [(.t 6), (.t 7)])⟩,
    ⟨some 9, none, .d (.not (.t 8))⟩,
    ⟨some 3, none, .d (.mv (.t 9))⟩])
  (.ret)), [.tmp 3]⟩
def n_areListed1 : Nat → Option Ann := fun _ => none
abbrev k_areListed1 : List Nat := [0, 1, 3]
abbrev o_areListed1 : List Nat := []
def c_areListed1 : Con := pure' fun
  | [.p (.int .i64 q), .p (.cp [.sl 1 xs, .int .i64 m])] => if isI xs = true ∧ xs.length ≤ 1100000 then some (.p (.bool !(isQ xs.length q)), []) else none
  | _ => none
theorem s_areListed1 {P : Program} (hm : P.follows .mixedOrders = true) {Γ : Gam} (hΓ : GS P Γ) {n : FuncId} {f_isQuestion : FuncId} (is : Is P n (a_areListed1 f_isQuestion)) (h_isQuestion : Γ f_isQuestion = c_isQuestion)  : Says P n c_areListed1 := by
  refine Says.pure fun args r fs h => ?_
  split at h
  case h_2 => cases h
  rename_i q xs m
  split at h
  case isFalse => cases h
  simp only [Option.some.injEq, Prod.mk.injEq] at h
  obtain ⟨rfl, rfl⟩ := h
  refine is.go hm hΓ k_areListed1 o_areListed1 (by simp [a_areListed1]) ?_
  simp only [a_areListed1, h_isQuestion, c_isQuestion, List.zipIdx_cons, List.zipIdx_nil, ↓SP, SQ, Gam.add, stepM, callC, argC, lendO, nmBy, nmC, likeL, likeB, plainOb, offs, exL, X, F, trP, trO, stepD, stepW, newA, SV.tr, SV.trL, fz, allP, Ob.tr, loadA, cellsA, SV.cells, binA, binI, eqOut, isSl, isPt, natOf, callee, snap, SV.refsL, SV.refs, thaw, fzAll, loA, hiA, elemOf, partsA, buildA, putCells, ↓reduceIte, reduceCtorEq, okCell, Nat.reduceAdd, Nat.reduceEqDiff, Nat.reduceSub, Nat.reduceMul, Nat.reduceLeDiff, Nat.reduceLT, Nat.reduceBEq, PV.scal, PV.scalL, SV.scal, SV.scalL, Ob.scal, PV.isCell, pure', resO]
  exact finA_val (by simp [retA, rvA, List.mapM_cons, List.mapM_nil, Option.pure_def, Option.bind_eq_bind, Option.bind_some, Option.map_some, mkE_cons, mk_nil, mkO_cons, mkO_nil, loadA, ↓reduceIte, List.take_succ_cons, List.take_zero, List.drop_zero, List.drop_succ_cons, List.length_cons, List.length_nil, Nat.reduceAdd, Nat.reduceEqDiff, Nat.reduceLeDiff, Nat.zero_add, Nat.le_refl, reduceCtorEq, SV.tr, SV.trL, nmF, rn_nil, rn_cons1, rn_cons2, List.map_cons, List.map_nil, List.all_cons, List.all_nil, plainOb, SV.refsL, SV.refs, Ob.refs, X, F, List.range_succ, List.range_zero, List.nil_append, List.cons_append, List.isEmpty_nil, decide_true, Nat.reduceLT, Bool.and_self, Bool.and_true, and_self, and_true, List.getElem?_cons_zero, List.getElem?_cons_succ, List.nodup_cons, List.nodup_nil, List.mem_cons, List.not_mem_nil, not_false_eq_true, or_false, List.append_nil, mkO, setO_mk, List.mem_singleton]) (by simp [SV.tr, SV.trL])
def a_areListed (f_IsState : FuncId) (f_areListed1 : FuncId) (f_ContainsFunc : FuncId) : AFn := ⟨2, 
  .seq (.reg [⟨some 2, none, .w (.box 2 (.t 0))⟩,
    ⟨some 4, none, .d (.mv (.c (.bool false)))⟩])
  (.seq (.reg [⟨some 5, none, .d (.load true 2 (.t 2))⟩,
    ⟨some 6, none, .d (.call (.f f_IsState) [(.t 5)])⟩,
    ⟨some 7, none, .d (.mv (.t 6))⟩,
    ⟨some 8, some (7, true), .d (.mv (.t 1))⟩,
    ⟨some 9, some (7, true), .d (.len (.t 8))⟩,
    ⟨some 10, some (7, true), .d (.bin .arith .leq (.t 9) (.c (.int .i64 8)))⟩,
    ⟨some 11, none, .d (.pick (.t 7) (.t 10) (.c (.bool false)))⟩,
    ⟨some 12, none, .d (.mv (.t 11))⟩,
    ⟨some 13, some (12, true), .d (.mv (.t 1))⟩,
    ⟨some 14, some (12, true), .d (.mkfn f_areListed1 [] [(.t 2)])⟩,
    ⟨some 15, some (12, true), .d (.call (.f f_ContainsFunc) [(.t 13), (.t 14)])⟩,
    ⟨some 16, some (12, true), .d (.not (.t 15))⟩,
    ⟨some 17, none, .d (.pick (.t 12) (.t 16) (.c (.bool false)))⟩,
    ⟨some 4, none, .d (.mv (.t 17))⟩])
  (.ret)), [.tmp 4]⟩
def n_areListed : Nat → Option Ann := fun _ => none
abbrev k_areListed : List Nat := [0, 1, 2, 4]
abbrev o_areListed : List Nat := [2]
/-- Whether a list of questions may be asked at a state. -/
def isL (x : List Int) (m : Int) (l : List Int) : Bool := isSt x m && decide ((l.length : Int) ≤ 8) && l.all (isQ x.length)
def c_areListed : Con := pure' fun
  | [.p (.agg [.sl 1 x_, .int .i64 m]), .p (.sl 1 l_)] => if isI x_ = true ∧ isI l_ = true ∧ ((ofI x_).length ≤ 1100000 ∧ (ofI l_).length ≤ 1100000) then some (.p (.bool (isL (ofI x_) m (ofI l_))), []) else none
  | _ => none
theorem s_areListed {P : Program} (hm : P.follows .mixedOrders = true) {Γ : Gam} (hΓ : GS P Γ) {n : FuncId} {f_IsState : FuncId} {f_areListed1 : FuncId} {f_ContainsFunc : FuncId} (is : Is P n (a_areListed f_IsState f_areListed1 f_ContainsFunc)) (h_IsState : Γ f_IsState = c_IsState) {Γ0 : Gam} (h_ContainsFunc : Γ f_ContainsFunc = c_ContainsFunc Γ0) (h_areListed1 : Γ0 f_areListed1 = c_areListed1) : Says P n c_areListed := by
  refine Says.pure fun args r fs h => ?_
  split at h
  case h_2 => cases h
  rename_i x_ m l_
  split at h
  case isFalse => cases h
  rename_i hc
  obtain ⟨hx_, hc⟩ := hc
  obtain ⟨x, rfl⟩ := isI_out hx_
  obtain ⟨hl_, hc⟩ := hc
  obtain ⟨l, rfl⟩ := isI_out hl_
  simp only [ofI_ints, ofBo_bools, ofAs_asks, Option.some.injEq, Prod.mk.injEq] at h hc
  obtain ⟨rfl, rfl⟩ := h
  have hask : askF Γ0 f_areListed1 [] [.cp [.sl 1 (ints x), .int .i64 m]] (ints l) = some (l.map fun q => !(isQ x.length q)) := askF_eq fun q _ => by
    rw [h_areListed1]; simp [c_areListed1, pure', isI_ints, ints_len, hc.1]
  cases h1 : isSt x m with
  | false =>
    refine is.go hm hΓ k_areListed o_areListed (by simp [a_areListed]) ?_
    simp only [a_areListed, h_IsState, c_IsState, h_ContainsFunc, c_ContainsFunc, hask, hc, h1, List.zipIdx_cons, List.zipIdx_nil, ↓SP, SQ, Gam.add, stepM, callC, argC, lendO, nmBy, nmC, likeL, likeB, plainOb, offs, exL, X, F, trP, trO, stepD, stepW, newA, SV.tr, SV.trL, fz, allP, Ob.tr, loadA, cellsA, SV.cells, binA, binI, eqOut, isSl, isPt, natOf, callee, snap, SV.refsL, SV.refs, thaw, fzAll, loA, hiA, elemOf, partsA, buildA, putCells, ↓reduceIte, reduceCtorEq, okCell, Nat.reduceAdd, Nat.reduceEqDiff, Nat.reduceSub, Nat.reduceMul, Nat.reduceLeDiff, Nat.reduceLT, Nat.reduceBEq, PV.scal, PV.scalL, SV.scal, SV.scalL, Ob.scal, PV.isCell, pure', resO]
    exact finA_val (by simp only [isL, h1, Bool.false_and]; simp [retA, rvA, List.mapM_cons, List.mapM_nil, Option.pure_def, Option.bind_eq_bind, Option.bind_some, Option.map_some, mkE_cons, mk_nil, mkO_cons, mkO_nil, loadA, ↓reduceIte, List.take_succ_cons, List.take_zero, List.drop_zero, List.drop_succ_cons, List.length_cons, List.length_nil, Nat.reduceAdd, Nat.reduceEqDiff, Nat.reduceLeDiff, Nat.zero_add, Nat.le_refl, reduceCtorEq, SV.tr, SV.trL, nmF, rn_nil, rn_cons1, rn_cons2, List.map_cons, List.map_nil, List.all_cons, List.all_nil, plainOb, SV.refsL, SV.refs, Ob.refs, X, F, List.range_succ, List.range_zero, List.nil_append, List.cons_append, List.isEmpty_nil, decide_true, Nat.reduceLT, Bool.and_self, Bool.and_true, and_self, and_true, List.getElem?_cons_zero, List.getElem?_cons_succ, List.nodup_cons, List.nodup_nil, List.mem_cons, List.not_mem_nil, not_false_eq_true, or_false, List.append_nil, mkO, setO_mk, List.mem_singleton]) (by simp [SV.tr])
  | true =>
    by_cases h2 : (l.length : Int) ≤ 8
    · have h2' := dec_t h2
      refine is.go hm hΓ k_areListed o_areListed (by simp [a_areListed]) ?_
      simp only [a_areListed, h_IsState, c_IsState, h_ContainsFunc, c_ContainsFunc, hask, hc, h1, h2, List.zipIdx_cons, List.zipIdx_nil, ↓SP, SQ, Gam.add, stepM, callC, argC, lendO, nmBy, nmC, likeL, likeB, plainOb, offs, exL, X, F, trP, trO, stepD, stepW, newA, SV.tr, SV.trL, fz, allP, Ob.tr, loadA, cellsA, SV.cells, binA, binI, eqOut, isSl, isPt, natOf, callee, snap, SV.refsL, SV.refs, thaw, fzAll, loA, hiA, elemOf, partsA, buildA, putCells, ↓reduceIte, reduceCtorEq, okCell, Nat.reduceAdd, Nat.reduceEqDiff, Nat.reduceSub, Nat.reduceMul, Nat.reduceLeDiff, Nat.reduceLT, Nat.reduceBEq, PV.scal, PV.scalL, SV.scal, SV.scalL, Ob.scal, PV.isCell, pure', resO]
      exact finA_val (by simp only [isL, h1, h2', Bool.true_and, ← any_not]; simp [retA, rvA, List.mapM_cons, List.mapM_nil, Option.pure_def, Option.bind_eq_bind, Option.bind_some, Option.map_some, mkE_cons, mk_nil, mkO_cons, mkO_nil, loadA, ↓reduceIte, List.take_succ_cons, List.take_zero, List.drop_zero, List.drop_succ_cons, List.length_cons, List.length_nil, Nat.reduceAdd, Nat.reduceEqDiff, Nat.reduceLeDiff, Nat.zero_add, Nat.le_refl, reduceCtorEq, SV.tr, SV.trL, nmF, rn_nil, rn_cons1, rn_cons2, List.map_cons, List.map_nil, List.all_cons, List.all_nil, plainOb, SV.refsL, SV.refs, Ob.refs, X, F, List.range_succ, List.range_zero, List.nil_append, List.cons_append, List.isEmpty_nil, decide_true, Nat.reduceLT, Bool.and_self, Bool.and_true, and_self, and_true, List.getElem?_cons_zero, List.getElem?_cons_succ, List.nodup_cons, List.nodup_nil, List.mem_cons, List.not_mem_nil, not_false_eq_true, or_false, List.append_nil, mkO, setO_mk, List.mem_singleton]) (by simp [SV.tr])
    · have h2' := dec_f h2
      refine is.go hm hΓ k_areListed o_areListed (by simp [a_areListed]) ?_
      simp only [a_areListed, h_IsState, c_IsState, h_ContainsFunc, c_ContainsFunc, hask, hc, h1, h2, List.zipIdx_cons, List.zipIdx_nil, ↓SP, SQ, Gam.add, stepM, callC, argC, lendO, nmBy, nmC, likeL, likeB, plainOb, offs, exL, X, F, trP, trO, stepD, stepW, newA, SV.tr, SV.trL, fz, allP, Ob.tr, loadA, cellsA, SV.cells, binA, binI, eqOut, isSl, isPt, natOf, callee, snap, SV.refsL, SV.refs, thaw, fzAll, loA, hiA, elemOf, partsA, buildA, putCells, ↓reduceIte, reduceCtorEq, okCell, Nat.reduceAdd, Nat.reduceEqDiff, Nat.reduceSub, Nat.reduceMul, Nat.reduceLeDiff, Nat.reduceLT, Nat.reduceBEq, PV.scal, PV.scalL, SV.scal, SV.scalL, Ob.scal, PV.isCell, pure', resO]
      exact finA_val (by simp only [isL, h1, h2', Bool.and_false, Bool.false_and]; simp [retA, rvA, List.mapM_cons, List.mapM_nil, Option.pure_def, Option.bind_eq_bind, Option.bind_some, Option.map_some, mkE_cons, mk_nil, mkO_cons, mkO_nil, loadA, ↓reduceIte, List.take_succ_cons, List.take_zero, List.drop_zero, List.drop_succ_cons, List.length_cons, List.length_nil, Nat.reduceAdd, Nat.reduceEqDiff, Nat.reduceLeDiff, Nat.zero_add, Nat.le_refl, reduceCtorEq, SV.tr, SV.trL, nmF, rn_nil, rn_cons1, rn_cons2, List.map_cons, List.map_nil, List.all_cons, List.all_nil, plainOb, SV.refsL, SV.refs, Ob.refs, X, F, List.range_succ, List.range_zero, List.nil_append, List.cons_append, List.isEmpty_nil, decide_true, Nat.reduceLT, Bool.and_self, Bool.and_true, and_self, and_true, List.getElem?_cons_zero, List.getElem?_cons_succ, List.nodup_cons, List.nodup_nil, List.mem_cons, List.not_mem_nil, not_false_eq_true, or_false, List.append_nil, mkO, setO_mk, List.mem_singleton]) (by simp [SV.tr])
/-- The numbers that stand open, of the first i. -/
def opensI (y : List Int) (i : Nat) : List Int := ((List.range i).filter fun j => decide (0 ≤ y.getD j 0)).map fun j : Nat => (j : Int)
def opens (y : List Int) : List Int := opensI y y.length
theorem opensI_yes (y : List Int) (i : Nat) (h : 0 ≤ y.getD i 0) : opensI y i ++ [(i : Int)] = opensI y (i + 1) := by
  have h' : decide (0 ≤ y.getD i 0) = true := dec_t h
  simp only [opensI, List.range_succ, List.filter_append, List.filter_cons, h', List.filter_nil, if_true, List.map_append, List.map_cons, List.map_nil]
theorem opensI_no (y : List Int) (i : Nat) (h : ¬ 0 ≤ y.getD i 0) : opensI y (i + 1) = opensI y i := by
  have h' : decide (0 ≤ y.getD i 0) = false := dec_f h
  simp only [opensI, List.range_succ, List.filter_append, List.filter_cons, h', List.filter_nil, Bool.false_eq_true, if_false, List.append_nil]
theorem opensI_len (y : List Int) (i : Nat) : (opensI y i).length ≤ i := by
  simp only [opensI, List.length_map]
  exact Nat.le_trans (List.length_filter_le _ _) (by simp)
def a_l2Open : AFn := ⟨1, 
  .seq (.reg [⟨some 1, none, .w (.box 2 (.t 0))⟩,
    ⟨some 2, none, .d (.mv (.c (.nilsl)))⟩])
  (.seq (.reg [⟨some 5, none, .w (.bslice 1 [] [])⟩,
    ⟨some 3, none, .d (.mv (.t 5))⟩])
  (.seq (.seq (.reg [⟨some 4, none, .d (.mv (.c (.int .i64 0)))⟩])
  (.block 0 (.loop (.seq (.seq (.reg [⟨some 6, none, .d (.mv (.t 4))⟩,
      ⟨some 7, none, .d (.fa 0 (.t 1))⟩,
      ⟨some 8, none, .d (.load false 1 (.t 7))⟩,
      ⟨some 9, none, .d (.len (.t 8))⟩,
      ⟨some 10, none, .d (.bin .arith .lss (.t 6) (.t 9))⟩])
    (.cond (.t 10) (.skip) (.exit 0)))
    (.seq (.block 1 (.seq (.reg [⟨some 13, none, .d (.fa 0 (.t 1))⟩,
       ⟨some 14, none, .d (.load false 1 (.t 13))⟩,
       ⟨some 15, none, .d (.mv (.t 4))⟩,
       ⟨some 16, none, .d (.ia 1 (.t 14) (.t 15))⟩,
       ⟨some 17, none, .d (.load false 1 (.t 16))⟩,
       ⟨some 18, none, .d (.bin .arith .geq (.t 17) (.c (.int .i64 0)))⟩])
     (.cond (.t 18) (.reg [⟨some 19, none, .d (.mv (.t 3))⟩,
        ⟨some 20, none, .d (.mv (.t 4))⟩,
        ⟨some 21, none, .w (.bslice 1 [.int .i64 0] [(0, (.t 20))])⟩,
        ⟨some 22, none, .w (.append 1 (.t 19) (.t 21))⟩,
        ⟨some 3, none, .d (.mv (.t 22))⟩]) (.skip))))
    (.reg [⟨some 11, none, .d (.mv (.t 4))⟩,
      ⟨some 12, none, .d (.bin .arith .add (.t 11) (.c (.int .i64 1)))⟩,
      ⟨some 4, none, .d (.mv (.t 12))⟩]))))))
  (.seq (.reg [⟨some 23, none, .d (.mv (.t 3))⟩,
    ⟨some 2, none, .d (.mv (.t 23))⟩])
  (.ret)))), [.tmp 2]⟩
def n_l2Open : Nat → Option Ann := fun _ => none
abbrev k_l2Open : List Nat := [0, 1, 2, 3, 4, 10, 18]
abbrev o_l2Open : List Nat := [1, 5, 21, 22]
def a_opened : AFn := ⟨1, 
  .seq (.reg [⟨some 1, none, .w (.box 2 (.t 0))⟩,
    ⟨some 2, none, .d (.mv (.c (.nilsl)))⟩])
  (.seq (.reg [⟨some 6, none, .w (.bslice 1 [] [])⟩,
    ⟨some 3, none, .d (.mv (.t 6))⟩])
  (.seq (.seq (.reg [⟨some 7, none, .d (.fa 0 (.t 1))⟩,
    ⟨some 8, none, .d (.load false 1 (.t 7))⟩,
    ⟨some 9, none, .d (.len (.t 8))⟩,
    ⟨some 10, none, .d (.mv (.c (.int .i64 0)))⟩])
  (.block 0 (.loop (.seq (.reg [⟨some 11, none, .d (.bin .arith .lss (.t 10) (.t 9))⟩])
    (.seq (.cond (.t 11) (.skip) (.exit 0))
    (.seq (.block 1 (.seq (.reg [⟨some 12, none, .d (.mv (.t 10))⟩,
       ⟨some 13, none, .d (.ia 1 (.t 8) (.t 10))⟩,
       ⟨some 14, none, .d (.load false 1 (.t 13))⟩,
       ⟨some 4, none, .d (.mv (.t 12))⟩,
       ⟨some 5, none, .d (.mv (.t 14))⟩])
     (.seq (.reg [⟨some 15, none, .d (.mv (.t 5))⟩,
       ⟨some 16, none, .d (.bin .arith .geq (.t 15) (.c (.int .i64 0)))⟩])
     (.cond (.t 16) (.reg [⟨some 17, none, .d (.mv (.t 3))⟩,
        ⟨some 18, none, .d (.mv (.t 4))⟩,
        ⟨some 19, none, .w (.bslice 1 [.int .i64 0] [(0, (.t 18))])⟩,
        ⟨some 20, none, .w (.append 1 (.t 17) (.t 19))⟩,
        ⟨some 3, none, .d (.mv (.t 20))⟩]) (.skip)))))
    (.reg [⟨some 21, none, .d (.bin .arith .add (.t 10) (.c (.int .i64 1)))⟩,
      ⟨some 10, none, .d (.mv (.t 21))⟩])))))))
  (.seq (.reg [⟨some 22, none, .d (.mv (.t 3))⟩,
    ⟨some 2, none, .d (.mv (.t 22))⟩])
  (.ret)))), [.tmp 2]⟩
def n_opened : Nat → Option Ann := fun _ => none
abbrev k_opened : List Nat := [0, 1, 2, 3, 4, 5, 8, 9, 10, 11, 16]
abbrev o_opened : List Nat := [1, 6, 19, 20]
def c_l2Open : Con := pure' fun
  | [.p (.agg [.sl 1 x_, .int .i64 m])] => if isI x_ = true ∧ ((ofI x_).length ≤ 1100000) then some (.ar 2000000, [.arr 1 (ints (opens (ofI x_)))]) else none
  | _ => none
theorem s_l2Open {P : Program} (hm : P.follows .mixedOrders = true) {Γ : Gam} (hΓ : GS P Γ) {n : FuncId} (is : Is P n a_l2Open)  : Says P n c_l2Open := by
  refine Says.pure fun args r fs h => ?_
  split at h
  case h_2 => cases h
  rename_i x_ m
  split at h
  case isFalse => cases h
  rename_i hc
  obtain ⟨hx_, hc⟩ := hc
  obtain ⟨x, rfl⟩ := isI_out hx_
  simp only [ofI_ints, ofBo_bools, ofAs_asks, Option.some.injEq, Prod.mk.injEq] at h hc
  obtain ⟨rfl, rfl⟩ := h
  refine is.go hm hΓ k_l2Open o_l2Open (by simp [a_l2Open]) ?_
  simp only [a_l2Open, List.zipIdx_cons, List.zipIdx_nil, ↓SP, SQ, Gam.add, stepM, callC, argC, lendO, nmBy, nmC, likeL, likeB, plainOb, offs, exL, X, F, trP, trO, stepD, stepW, newA, SV.tr, SV.trL, fz, allP, Ob.tr, loadA, cellsA, SV.cells, binA, binI, eqOut, isSl, isPt, natOf, callee, snap, SV.refsL, SV.refs, thaw, fzAll, loA, hiA, elemOf, partsA, buildA, putCells, ↓reduceIte, reduceCtorEq, okCell, Nat.reduceAdd, Nat.reduceEqDiff, Nat.reduceSub, Nat.reduceMul, Nat.reduceLeDiff, Nat.reduceLT, Nat.reduceBEq, PV.scal, PV.scalL, SV.scal, SV.scalL, Ob.scal, PV.isCell, pure', resO]
  refine loop_at (fun s : Nat × Option Ob × SV × SV => mkEnv [(0, .p (.agg [.sl 1 (ints x), .int .i64 m])), (1, .bx 1 0), (2, .p .nilsl), (3, .ar 5), (4, si s.1), (10, s.2.2.1), (18, s.2.2.2)]) (fun s => mkO [(1, some (.box [.p (.sl 1 (ints x)), si m])), (5, some (.arr 1 (ints (opensI x s.1)))), (21, s.2.1), (22, none)]) (fun s => s.1 ≤ x.length) (fun s => x.length - s.1) (0, none, .junk, .junk) (by simp) rfl rfl ?_
  rintro ⟨i, ob, c1, c2⟩ hi R hR hN
  simp only at hi
  by_cases h : i < x.length
  · have h1 : (i : Int) < x.length := by omega
    have hw := wrap_one (i := i) (by omega)
    have hg := ints_get h
    have hl := opensI_len x i
    have hr : (opensI x i).length + 1 ≤ roomA := by unfold roomA; omega
    by_cases hx : 0 ≤ x.getD i 0
    · have hx' : x.getD i 0 ≥ 0 := hx
      have ho := opensI_yes x i hx
      simp only [h1, hw, hg, hr, hx, hx', ints_len, ints_app1, ho, ints_cell, ↓SP, SQ, Gam.add, stepM, callC, argC, lendO, nmBy, nmC, likeL, likeB, plainOb, offs, exL, X, F, trP, trO, stepD, stepW, newA, SV.tr, SV.trL, fz, allP, Ob.tr, loadA, cellsA, SV.cells, binA, binI, eqOut, isSl, isPt, natOf, callee, snap, SV.refsL, SV.refs, thaw, fzAll, loA, hiA, elemOf, partsA, buildA, putCells, ↓reduceIte, reduceCtorEq, okCell, Nat.reduceAdd, Nat.reduceEqDiff, Nat.reduceSub, Nat.reduceMul, Nat.reduceLeDiff, Nat.reduceLT, Nat.reduceBEq, PV.scal, PV.scalL, SV.scal, SV.scalL, Ob.scal, PV.isCell, pure', resO]
      exact hN (i + 1, _, _, _) _ _ (by simp only; omega) (by simp only; omega) rfl rfl
    · have hx' : ¬ x.getD i 0 ≥ 0 := hx
      have ho := opensI_no x i hx
      simp only [h1, hw, hg, hx, hx', ↓SP, SQ, Gam.add, stepM, callC, argC, lendO, nmBy, nmC, likeL, likeB, plainOb, offs, exL, X, F, trP, trO, stepD, stepW, newA, SV.tr, SV.trL, fz, allP, Ob.tr, loadA, cellsA, SV.cells, binA, binI, eqOut, isSl, isPt, natOf, callee, snap, SV.refsL, SV.refs, thaw, fzAll, loA, hiA, elemOf, partsA, buildA, putCells, ↓reduceIte, reduceCtorEq, okCell, Nat.reduceAdd, Nat.reduceEqDiff, Nat.reduceSub, Nat.reduceMul, Nat.reduceLeDiff, Nat.reduceLT, Nat.reduceBEq, PV.scal, PV.scalL, SV.scal, SV.scalL, Ob.scal, PV.isCell, pure', resO]
      exact hN (i + 1, _, _, _) _ _ (by simp only; omega) (by simp only; omega) rfl (by rw [ho])
  · have he : i = x.length := by omega
    have h1 : ¬ (i : Int) < x.length := by omega
    simp only [h1, ↓SP, SQ, Gam.add, stepM, callC, argC, lendO, nmBy, nmC, likeL, likeB, plainOb, offs, exL, X, F, trP, trO, stepD, stepW, newA, SV.tr, SV.trL, fz, allP, Ob.tr, loadA, cellsA, SV.cells, binA, binI, eqOut, isSl, isPt, natOf, callee, snap, SV.refsL, SV.refs, thaw, fzAll, loA, hiA, elemOf, partsA, buildA, putCells, ↓reduceIte, reduceCtorEq, okCell, Nat.reduceAdd, Nat.reduceEqDiff, Nat.reduceSub, Nat.reduceMul, Nat.reduceLeDiff, Nat.reduceLT, Nat.reduceBEq, PV.scal, PV.scalL, SV.scal, SV.scalL, Ob.scal, PV.isCell, pure', resO]
    refine hR _ _ _ (by intro h; cases h) ?_
    simp only [↓SP, SQ, Gam.add, stepM, callC, argC, lendO, nmBy, nmC, likeL, likeB, plainOb, offs, exL, X, F, trP, trO, stepD, stepW, newA, SV.tr, SV.trL, fz, allP, Ob.tr, loadA, cellsA, SV.cells, binA, binI, eqOut, isSl, isPt, natOf, callee, snap, SV.refsL, SV.refs, thaw, fzAll, loA, hiA, elemOf, partsA, buildA, putCells, ↓reduceIte, reduceCtorEq, okCell, Nat.reduceAdd, Nat.reduceEqDiff, Nat.reduceSub, Nat.reduceMul, Nat.reduceLeDiff, Nat.reduceLT, Nat.reduceBEq, PV.scal, PV.scalL, SV.scal, SV.scalL, Ob.scal, PV.isCell, pure', resO]
    subst he
    exact finA_gen [5] trivial (by simp [retA, rvA, List.mapM_cons, List.mapM_nil, Option.pure_def, Option.bind_eq_bind, Option.bind_some, Option.map_some, mkE_cons, mk_nil, mkO_cons, mkO_nil, loadA, ↓reduceIte, List.take_succ_cons, List.take_zero, List.drop_zero, List.drop_succ_cons, List.length_cons, List.length_nil, Nat.reduceAdd, Nat.reduceEqDiff, Nat.reduceLeDiff, Nat.zero_add, Nat.le_refl, reduceCtorEq, SV.tr, SV.trL, nmF, rn_nil, rn_cons1, rn_cons2, List.map_cons, List.map_nil, List.all_cons, List.all_nil, plainOb, SV.refsL, SV.refs, Ob.refs, X, F, List.range_succ, List.range_zero, List.nil_append, List.cons_append, List.isEmpty_nil, decide_true, Nat.reduceLT, Bool.and_self, Bool.and_true, and_self, and_true, List.getElem?_cons_zero, List.getElem?_cons_succ, List.nodup_cons, List.nodup_nil, List.mem_cons, List.not_mem_nil, not_false_eq_true, or_false, List.append_nil, mkO, setO_mk, List.mem_singleton]; rfl) (by simp [opens, retA, rvA, List.mapM_cons, List.mapM_nil, Option.pure_def, Option.bind_eq_bind, Option.bind_some, Option.map_some, mkE_cons, mk_nil, mkO_cons, mkO_nil, loadA, ↓reduceIte, List.take_succ_cons, List.take_zero, List.drop_zero, List.drop_succ_cons, List.length_cons, List.length_nil, Nat.reduceAdd, Nat.reduceEqDiff, Nat.reduceLeDiff, Nat.zero_add, Nat.le_refl, reduceCtorEq, SV.tr, SV.trL, nmF, rn_nil, rn_cons1, rn_cons2, List.map_cons, List.map_nil, List.all_cons, List.all_nil, plainOb, SV.refsL, SV.refs, Ob.refs, X, F, List.range_succ, List.range_zero, List.nil_append, List.cons_append, List.isEmpty_nil, decide_true, Nat.reduceLT, Bool.and_self, Bool.and_true, and_self, and_true, List.getElem?_cons_zero, List.getElem?_cons_succ, List.nodup_cons, List.nodup_nil, List.mem_cons, List.not_mem_nil, not_false_eq_true, or_false, List.append_nil, mkO, setO_mk, List.mem_singleton]) (by simp [opens, retA, rvA, List.mapM_cons, List.mapM_nil, Option.pure_def, Option.bind_eq_bind, Option.bind_some, Option.map_some, mkE_cons, mk_nil, mkO_cons, mkO_nil, loadA, ↓reduceIte, List.take_succ_cons, List.take_zero, List.drop_zero, List.drop_succ_cons, List.length_cons, List.length_nil, Nat.reduceAdd, Nat.reduceEqDiff, Nat.reduceLeDiff, Nat.zero_add, Nat.le_refl, reduceCtorEq, SV.tr, SV.trL, nmF, rn_nil, rn_cons1, rn_cons2, List.map_cons, List.map_nil, List.all_cons, List.all_nil, plainOb, SV.refsL, SV.refs, Ob.refs, X, F, List.range_succ, List.range_zero, List.nil_append, List.cons_append, List.isEmpty_nil, decide_true, Nat.reduceLT, Bool.and_self, Bool.and_true, and_self, and_true, List.getElem?_cons_zero, List.getElem?_cons_succ, List.nodup_cons, List.nodup_nil, List.mem_cons, List.not_mem_nil, not_false_eq_true, or_false, List.append_nil, mkO, setO_mk, List.mem_singleton]) (by simp) (by simp) (by simp [retA, rvA, List.mapM_cons, List.mapM_nil, Option.pure_def, Option.bind_eq_bind, Option.bind_some, Option.map_some, mkE_cons, mk_nil, mkO_cons, mkO_nil, loadA, ↓reduceIte, List.take_succ_cons, List.take_zero, List.drop_zero, List.drop_succ_cons, List.length_cons, List.length_nil, Nat.reduceAdd, Nat.reduceEqDiff, Nat.reduceLeDiff, Nat.zero_add, Nat.le_refl, reduceCtorEq, SV.tr, SV.trL, nmF, rn_nil, rn_cons1, rn_cons2, List.map_cons, List.map_nil, List.all_cons, List.all_nil, plainOb, SV.refsL, SV.refs, Ob.refs, X, F, List.range_succ, List.range_zero, List.nil_append, List.cons_append, List.isEmpty_nil, decide_true, Nat.reduceLT, Bool.and_self, Bool.and_true, and_self, and_true, List.getElem?_cons_zero, List.getElem?_cons_succ, List.nodup_cons, List.nodup_nil, List.mem_cons, List.not_mem_nil, not_false_eq_true, or_false, List.append_nil, mkO, setO_mk, List.mem_singleton]) (by simp [opens, retA, rvA, List.mapM_cons, List.mapM_nil, Option.pure_def, Option.bind_eq_bind, Option.bind_some, Option.map_some, mkE_cons, mk_nil, mkO_cons, mkO_nil, loadA, ↓reduceIte, List.take_succ_cons, List.take_zero, List.drop_zero, List.drop_succ_cons, List.length_cons, List.length_nil, Nat.reduceAdd, Nat.reduceEqDiff, Nat.reduceLeDiff, Nat.zero_add, Nat.le_refl, reduceCtorEq, SV.tr, SV.trL, nmF, rn_nil, rn_cons1, rn_cons2, List.map_cons, List.map_nil, List.all_cons, List.all_nil, plainOb, SV.refsL, SV.refs, Ob.refs, X, F, List.range_succ, List.range_zero, List.nil_append, List.cons_append, List.isEmpty_nil, decide_true, Nat.reduceLT, Bool.and_self, Bool.and_true, and_self, and_true, List.getElem?_cons_zero, List.getElem?_cons_succ, List.nodup_cons, List.nodup_nil, List.mem_cons, List.not_mem_nil, not_false_eq_true, or_false, List.append_nil, mkO, setO_mk, List.mem_singleton]) (by simp [opens, retA, rvA, List.mapM_cons, List.mapM_nil, Option.pure_def, Option.bind_eq_bind, Option.bind_some, Option.map_some, mkE_cons, mk_nil, mkO_cons, mkO_nil, loadA, ↓reduceIte, List.take_succ_cons, List.take_zero, List.drop_zero, List.drop_succ_cons, List.length_cons, List.length_nil, Nat.reduceAdd, Nat.reduceEqDiff, Nat.reduceLeDiff, Nat.zero_add, Nat.le_refl, reduceCtorEq, SV.tr, SV.trL, nmF, rn_nil, rn_cons1, rn_cons2, List.map_cons, List.map_nil, List.all_cons, List.all_nil, plainOb, SV.refsL, SV.refs, Ob.refs, X, F, List.range_succ, List.range_zero, List.nil_append, List.cons_append, List.isEmpty_nil, decide_true, Nat.reduceLT, Bool.and_self, Bool.and_true, and_self, and_true, List.getElem?_cons_zero, List.getElem?_cons_succ, List.nodup_cons, List.nodup_nil, List.mem_cons, List.not_mem_nil, not_false_eq_true, or_false, List.append_nil, mkO, setO_mk, List.mem_singleton])
theorem s_opened {P : Program} (hm : P.follows .mixedOrders = true) {Γ : Gam} (hΓ : GS P Γ) {n : FuncId} (is : Is P n a_opened)  : Says P n c_l2Open := by
  refine Says.pure fun args r fs h => ?_
  split at h
  case h_2 => cases h
  rename_i x_ m
  split at h
  case isFalse => cases h
  rename_i hc
  obtain ⟨hx_, hc⟩ := hc
  obtain ⟨x, rfl⟩ := isI_out hx_
  simp only [ofI_ints, ofBo_bools, ofAs_asks, Option.some.injEq, Prod.mk.injEq] at h hc
  obtain ⟨rfl, rfl⟩ := h
  refine is.go hm hΓ k_opened o_opened (by simp [a_opened]) ?_
  simp only [a_opened, List.zipIdx_cons, List.zipIdx_nil, ↓SP, SQ, Gam.add, stepM, callC, argC, lendO, nmBy, nmC, likeL, likeB, plainOb, offs, exL, X, F, trP, trO, stepD, stepW, newA, SV.tr, SV.trL, fz, allP, Ob.tr, loadA, cellsA, SV.cells, binA, binI, eqOut, isSl, isPt, natOf, callee, snap, SV.refsL, SV.refs, thaw, fzAll, loA, hiA, elemOf, partsA, buildA, putCells, ↓reduceIte, reduceCtorEq, okCell, Nat.reduceAdd, Nat.reduceEqDiff, Nat.reduceSub, Nat.reduceMul, Nat.reduceLeDiff, Nat.reduceLT, Nat.reduceBEq, PV.scal, PV.scalL, SV.scal, SV.scalL, Ob.scal, PV.isCell, pure', resO]
  refine loop_at (fun s : Nat × Option Ob × SV × SV × SV × SV => mkEnv [(0, .p (.agg [.sl 1 (ints x), .int .i64 m])), (1, .bx 1 0), (2, .p .nilsl), (3, .ar 6), (4, s.2.2.1), (5, s.2.2.2.1), (8, .p (.sl 1 (ints x))), (9, si x.length), (10, si s.1), (11, s.2.2.2.2.1), (16, s.2.2.2.2.2)]) (fun s => mkO [(1, some (.box [.p (.sl 1 (ints x)), si m])), (6, some (.arr 1 (ints (opensI x s.1)))), (19, s.2.1), (20, none)]) (fun s => s.1 ≤ x.length) (fun s => x.length - s.1) (0, none, .junk, .junk, .junk, .junk) (by simp) rfl rfl ?_
  rintro ⟨i, ob, c1, c2, c3, c4⟩ hi R hR hN
  simp only at hi
  by_cases h : i < x.length
  · have h1 : (i : Int) < x.length := by omega
    have hw := wrap_one (i := i) (by omega)
    have hg := ints_get h
    have hl := opensI_len x i
    have hr : (opensI x i).length + 1 ≤ roomA := by unfold roomA; omega
    by_cases hx : 0 ≤ x.getD i 0
    · have hx' : x.getD i 0 ≥ 0 := hx
      have ho := opensI_yes x i hx
      simp only [h1, hw, hg, hr, hx, hx', ints_len, ints_app1, ho, ints_cell, ↓SP, SQ, Gam.add, stepM, callC, argC, lendO, nmBy, nmC, likeL, likeB, plainOb, offs, exL, X, F, trP, trO, stepD, stepW, newA, SV.tr, SV.trL, fz, allP, Ob.tr, loadA, cellsA, SV.cells, binA, binI, eqOut, isSl, isPt, natOf, callee, snap, SV.refsL, SV.refs, thaw, fzAll, loA, hiA, elemOf, partsA, buildA, putCells, ↓reduceIte, reduceCtorEq, okCell, Nat.reduceAdd, Nat.reduceEqDiff, Nat.reduceSub, Nat.reduceMul, Nat.reduceLeDiff, Nat.reduceLT, Nat.reduceBEq, PV.scal, PV.scalL, SV.scal, SV.scalL, Ob.scal, PV.isCell, pure', resO]
      exact hN (i + 1, _, _, _, _, _) _ _ (by simp only; omega) (by simp only; omega) rfl rfl
    · have hx' : ¬ x.getD i 0 ≥ 0 := hx
      have ho := opensI_no x i hx
      simp only [h1, hw, hg, hx, hx', ↓SP, SQ, Gam.add, stepM, callC, argC, lendO, nmBy, nmC, likeL, likeB, plainOb, offs, exL, X, F, trP, trO, stepD, stepW, newA, SV.tr, SV.trL, fz, allP, Ob.tr, loadA, cellsA, SV.cells, binA, binI, eqOut, isSl, isPt, natOf, callee, snap, SV.refsL, SV.refs, thaw, fzAll, loA, hiA, elemOf, partsA, buildA, putCells, ↓reduceIte, reduceCtorEq, okCell, Nat.reduceAdd, Nat.reduceEqDiff, Nat.reduceSub, Nat.reduceMul, Nat.reduceLeDiff, Nat.reduceLT, Nat.reduceBEq, PV.scal, PV.scalL, SV.scal, SV.scalL, Ob.scal, PV.isCell, pure', resO]
      exact hN (i + 1, _, _, _, _, _) _ _ (by simp only; omega) (by simp only; omega) rfl (by rw [ho])
  · have he : i = x.length := by omega
    have h1 : ¬ (i : Int) < x.length := by omega
    simp only [h1, ↓SP, SQ, Gam.add, stepM, callC, argC, lendO, nmBy, nmC, likeL, likeB, plainOb, offs, exL, X, F, trP, trO, stepD, stepW, newA, SV.tr, SV.trL, fz, allP, Ob.tr, loadA, cellsA, SV.cells, binA, binI, eqOut, isSl, isPt, natOf, callee, snap, SV.refsL, SV.refs, thaw, fzAll, loA, hiA, elemOf, partsA, buildA, putCells, ↓reduceIte, reduceCtorEq, okCell, Nat.reduceAdd, Nat.reduceEqDiff, Nat.reduceSub, Nat.reduceMul, Nat.reduceLeDiff, Nat.reduceLT, Nat.reduceBEq, PV.scal, PV.scalL, SV.scal, SV.scalL, Ob.scal, PV.isCell, pure', resO]
    refine hR _ _ _ (by intro h; cases h) ?_
    simp only [↓SP, SQ, Gam.add, stepM, callC, argC, lendO, nmBy, nmC, likeL, likeB, plainOb, offs, exL, X, F, trP, trO, stepD, stepW, newA, SV.tr, SV.trL, fz, allP, Ob.tr, loadA, cellsA, SV.cells, binA, binI, eqOut, isSl, isPt, natOf, callee, snap, SV.refsL, SV.refs, thaw, fzAll, loA, hiA, elemOf, partsA, buildA, putCells, ↓reduceIte, reduceCtorEq, okCell, Nat.reduceAdd, Nat.reduceEqDiff, Nat.reduceSub, Nat.reduceMul, Nat.reduceLeDiff, Nat.reduceLT, Nat.reduceBEq, PV.scal, PV.scalL, SV.scal, SV.scalL, Ob.scal, PV.isCell, pure', resO]
    subst he
    exact finA_gen [6] trivial (by simp [retA, rvA, List.mapM_cons, List.mapM_nil, Option.pure_def, Option.bind_eq_bind, Option.bind_some, Option.map_some, mkE_cons, mk_nil, mkO_cons, mkO_nil, loadA, ↓reduceIte, List.take_succ_cons, List.take_zero, List.drop_zero, List.drop_succ_cons, List.length_cons, List.length_nil, Nat.reduceAdd, Nat.reduceEqDiff, Nat.reduceLeDiff, Nat.zero_add, Nat.le_refl, reduceCtorEq, SV.tr, SV.trL, nmF, rn_nil, rn_cons1, rn_cons2, List.map_cons, List.map_nil, List.all_cons, List.all_nil, plainOb, SV.refsL, SV.refs, Ob.refs, X, F, List.range_succ, List.range_zero, List.nil_append, List.cons_append, List.isEmpty_nil, decide_true, Nat.reduceLT, Bool.and_self, Bool.and_true, and_self, and_true, List.getElem?_cons_zero, List.getElem?_cons_succ, List.nodup_cons, List.nodup_nil, List.mem_cons, List.not_mem_nil, not_false_eq_true, or_false, List.append_nil, mkO, setO_mk, List.mem_singleton]; rfl) (by simp [opens, retA, rvA, List.mapM_cons, List.mapM_nil, Option.pure_def, Option.bind_eq_bind, Option.bind_some, Option.map_some, mkE_cons, mk_nil, mkO_cons, mkO_nil, loadA, ↓reduceIte, List.take_succ_cons, List.take_zero, List.drop_zero, List.drop_succ_cons, List.length_cons, List.length_nil, Nat.reduceAdd, Nat.reduceEqDiff, Nat.reduceLeDiff, Nat.zero_add, Nat.le_refl, reduceCtorEq, SV.tr, SV.trL, nmF, rn_nil, rn_cons1, rn_cons2, List.map_cons, List.map_nil, List.all_cons, List.all_nil, plainOb, SV.refsL, SV.refs, Ob.refs, X, F, List.range_succ, List.range_zero, List.nil_append, List.cons_append, List.isEmpty_nil, decide_true, Nat.reduceLT, Bool.and_self, Bool.and_true, and_self, and_true, List.getElem?_cons_zero, List.getElem?_cons_succ, List.nodup_cons, List.nodup_nil, List.mem_cons, List.not_mem_nil, not_false_eq_true, or_false, List.append_nil, mkO, setO_mk, List.mem_singleton]) (by simp [opens, retA, rvA, List.mapM_cons, List.mapM_nil, Option.pure_def, Option.bind_eq_bind, Option.bind_some, Option.map_some, mkE_cons, mk_nil, mkO_cons, mkO_nil, loadA, ↓reduceIte, List.take_succ_cons, List.take_zero, List.drop_zero, List.drop_succ_cons, List.length_cons, List.length_nil, Nat.reduceAdd, Nat.reduceEqDiff, Nat.reduceLeDiff, Nat.zero_add, Nat.le_refl, reduceCtorEq, SV.tr, SV.trL, nmF, rn_nil, rn_cons1, rn_cons2, List.map_cons, List.map_nil, List.all_cons, List.all_nil, plainOb, SV.refsL, SV.refs, Ob.refs, X, F, List.range_succ, List.range_zero, List.nil_append, List.cons_append, List.isEmpty_nil, decide_true, Nat.reduceLT, Bool.and_self, Bool.and_true, and_self, and_true, List.getElem?_cons_zero, List.getElem?_cons_succ, List.nodup_cons, List.nodup_nil, List.mem_cons, List.not_mem_nil, not_false_eq_true, or_false, List.append_nil, mkO, setO_mk, List.mem_singleton]) (by simp) (by simp) (by simp [retA, rvA, List.mapM_cons, List.mapM_nil, Option.pure_def, Option.bind_eq_bind, Option.bind_some, Option.map_some, mkE_cons, mk_nil, mkO_cons, mkO_nil, loadA, ↓reduceIte, List.take_succ_cons, List.take_zero, List.drop_zero, List.drop_succ_cons, List.length_cons, List.length_nil, Nat.reduceAdd, Nat.reduceEqDiff, Nat.reduceLeDiff, Nat.zero_add, Nat.le_refl, reduceCtorEq, SV.tr, SV.trL, nmF, rn_nil, rn_cons1, rn_cons2, List.map_cons, List.map_nil, List.all_cons, List.all_nil, plainOb, SV.refsL, SV.refs, Ob.refs, X, F, List.range_succ, List.range_zero, List.nil_append, List.cons_append, List.isEmpty_nil, decide_true, Nat.reduceLT, Bool.and_self, Bool.and_true, and_self, and_true, List.getElem?_cons_zero, List.getElem?_cons_succ, List.nodup_cons, List.nodup_nil, List.mem_cons, List.not_mem_nil, not_false_eq_true, or_false, List.append_nil, mkO, setO_mk, List.mem_singleton]) (by simp [opens, retA, rvA, List.mapM_cons, List.mapM_nil, Option.pure_def, Option.bind_eq_bind, Option.bind_some, Option.map_some, mkE_cons, mk_nil, mkO_cons, mkO_nil, loadA, ↓reduceIte, List.take_succ_cons, List.take_zero, List.drop_zero, List.drop_succ_cons, List.length_cons, List.length_nil, Nat.reduceAdd, Nat.reduceEqDiff, Nat.reduceLeDiff, Nat.zero_add, Nat.le_refl, reduceCtorEq, SV.tr, SV.trL, nmF, rn_nil, rn_cons1, rn_cons2, List.map_cons, List.map_nil, List.all_cons, List.all_nil, plainOb, SV.refsL, SV.refs, Ob.refs, X, F, List.range_succ, List.range_zero, List.nil_append, List.cons_append, List.isEmpty_nil, decide_true, Nat.reduceLT, Bool.and_self, Bool.and_true, and_self, and_true, List.getElem?_cons_zero, List.getElem?_cons_succ, List.nodup_cons, List.nodup_nil, List.mem_cons, List.not_mem_nil, not_false_eq_true, or_false, List.append_nil, mkO, setO_mk, List.mem_singleton]) (by simp [opens, retA, rvA, List.mapM_cons, List.mapM_nil, Option.pure_def, Option.bind_eq_bind, Option.bind_some, Option.map_some, mkE_cons, mk_nil, mkO_cons, mkO_nil, loadA, ↓reduceIte, List.take_succ_cons, List.take_zero, List.drop_zero, List.drop_succ_cons, List.length_cons, List.length_nil, Nat.reduceAdd, Nat.reduceEqDiff, Nat.reduceLeDiff, Nat.zero_add, Nat.le_refl, reduceCtorEq, SV.tr, SV.trL, nmF, rn_nil, rn_cons1, rn_cons2, List.map_cons, List.map_nil, List.all_cons, List.all_nil, plainOb, SV.refsL, SV.refs, Ob.refs, X, F, List.range_succ, List.range_zero, List.nil_append, List.cons_append, List.isEmpty_nil, decide_true, Nat.reduceLT, Bool.and_self, Bool.and_true, and_self, and_true, List.getElem?_cons_zero, List.getElem?_cons_succ, List.nodup_cons, List.nodup_nil, List.mem_cons, List.not_mem_nil, not_false_eq_true, or_false, List.append_nil, mkO, setO_mk, List.mem_singleton])
end Go.Proofs.Ytihpfhdkjlphhaa.Pam
