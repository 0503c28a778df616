/- A part of the proof that stands in this folder: a small machine whose steps are shown to be the steps of the model, or walks of functions by it. No condition of its own. -/
import Derived.Test.YtgnclbdhpdjafaaGbNH
set_option linter.unusedVariables false
set_option linter.unusedSimpArgs false
namespace Go.Proofs.Ytgnclbdhpdjafaa.Pam
open Go
def a_heldAskedS : AFn := ⟨2, 
  .seq (.reg [⟨some 4, none, .d (.mv (.c (.int .i64 0)))⟩])
  (.seq (.seq (.reg [⟨some 5, none, .d (.mv (.c (.int .i64 0)))⟩])
  (.block 0 (.loop (.seq (.seq (.reg [⟨some 6, none, .d (.mv (.t 5))⟩,
      ⟨some 7, none, .d (.mv (.t 0))⟩,
      ⟨some 8, none, .d (.len (.t 7))⟩,
      ⟨some 9, none, .d (.bin .arith .lss (.t 6) (.t 8))⟩])
    (.cond (.t 9) (.skip) (.exit 0)))
    (.seq (.block 1 (.seq (.seq (.reg [⟨some 12, none, .d (.mv (.t 0))⟩,
       ⟨some 13, none, .d (.mv (.t 5))⟩,
       ⟨some 14, none, .d (.ia 2 (.t 12) (.t 13))⟩,
       ⟨some 15, none, .d (.fa 0 (.t 14))⟩,
       ⟨some 16, none, .d (.load false 1 (.t 15))⟩,
       ⟨some 17, none, .d (.mv (.t 1))⟩,
       ⟨some 18, none, .d (.bin .arith .neq (.t 16) (.t 17))⟩])
     (.cond (.t 18) (.seq (.reg [⟨some 4, none, .d (.mv (.c (.int .i64 (-1))))⟩])
      (.ret)) (.skip)))
     (.seq (.reg [⟨some 19, none, .d (.mv (.t 1))⟩,
       ⟨some 20, none, .d (.bin .arith .add (.t 19) (.c (.int .i64 1)))⟩,
       ⟨some 1, none, .d (.mv (.t 20))⟩])
     (.seq (.seq (.reg [⟨some 21, none, .d (.mv (.t 0))⟩,
       ⟨some 22, none, .d (.mv (.t 5))⟩,
       ⟨some 23, none, .d (.ia 2 (.t 21) (.t 22))⟩,
       ⟨some 24, none, .d (.fa 1 (.t 23))⟩,
       ⟨some 25, none, .d (.load false 1 (.t 24))⟩,
       ⟨some 26, none, .d (.mv (.t 1))⟩,
       ⟨some 27, none, .d (.bin .arith .rem (.t 26) (.c (.int .i64 3)))⟩,
       ⟨some 28, none, .d (.bin .arith .eql (.t 27) (.c (.int .i64 0)))⟩,
       ⟨some 29, none, .d (.bin .bool .neq (.t 25) (.t 28))⟩])
     (.cond (.t 29) (.seq (.reg [⟨some 4, none, .d (.mv (.c (.int .i64 (-1))))⟩])
      (.ret)) (.skip)))
     (.reg [⟨some 30, none, .d (.mv (.t 1))⟩,
       ⟨some 31, none, .d (.bin .arith .add (.t 30) (.c (.int .i64 1)))⟩,
       ⟨some 1, none, .d (.mv (.t 31))⟩])))))
    (.reg [⟨some 10, none, .d (.mv (.t 5))⟩,
      ⟨some 11, none, .d (.bin .arith .add (.t 10) (.c (.int .i64 1)))⟩,
      ⟨some 5, none, .d (.mv (.t 11))⟩]))))))
  (.seq (.reg [⟨some 32, none, .d (.mv (.t 1))⟩,
    ⟨some 4, none, .d (.mv (.t 32))⟩])
  (.ret))), [.tmp 4]⟩
def n_heldAskedS : Nat → Option Ann := fun _ => none
abbrev k_heldAskedS : List Nat := [0, 1, 4, 5, 9, 18, 29]
abbrev o_heldAskedS : List Nat := []
def heldA (l : List (Int × Bool)) (k : Int) : Prop := ∀ j, j < l.length → l.getD j (0, false) = markA1 k j
instance (l : List (Int × Bool)) (k : Int) : Decidable (heldA l k) := by unfold heldA; infer_instance
theorem heldA_marks (k : Int) (n : Nat) : heldA (marksA k n) k := fun j hj => by
  have hj2 : j < n := by rw [marksA_len] at hj; exact hj
  simp [marksA, hj2]
def c_heldAskedS : Con := pure' fun
  | [.p v, .p (.int .i64 k)] => match slA v with
    | some l => if l.length ≤ 1100000 ∧ 0 ≤ k ∧ k ≤ 10000000 then some (.p (.int .i64 (if heldA l k then k + 2 * l.length else -1)), []) else none
    | _ => none
  | _ => none
theorem s_heldAskedS {P : Program} (hm : P.follows .mixedOrders = true) {Γ : Gam} (hΓ : GS P Γ) {n : FuncId} (is : Is P n a_heldAskedS)  : Says P n c_heldAskedS := by
  refine Says.pure fun args r fs h => ?_
  split at h
  case h_2 => cases h
  rename_i v k
  split at h
  case h_2 => cases h
  rename_i l hl
  split at h
  case isFalse => cases h
  rename_i hc
  simp only [Option.some.injEq, Prod.mk.injEq] at h
  obtain ⟨rfl, rfl⟩ := h
  have hlen := slA_len hl
  refine is.go hm hΓ k_heldAskedS o_heldAskedS (by simp [a_heldAskedS]) ?_
  simp only [a_heldAskedS, hlen, List.zipIdx_cons, List.zipIdx_nil, ↓SP, SQ, Gam.add, stepM, callC, argC, lendO, nmBy, nmC, likeL, likeB, plainOb, offs, exL, X, F, trP, trO, stepD, stepW, newA, SV.tr, SV.trL, fz, allP, Ob.tr, loadA, cellsA, SV.cells, binA, binI, eqOut, isSl, isPt, natOf, callee, snap, SV.refsL, SV.refs, thaw, fzAll, loA, hiA, elemOf, partsA, buildA, putCells, ↓reduceIte, reduceCtorEq, okCell, Nat.reduceAdd, Nat.reduceEqDiff, Nat.reduceSub, Nat.reduceMul, Nat.reduceLeDiff, Nat.reduceLT, Nat.reduceBEq, PV.scal, PV.scalL, SV.scal, SV.scalL, Ob.scal, PV.isCell, pure', resO]
  refine loop_at (fun s : Nat × SV × SV × SV => mkEnv [(0, .p v), (1, si (k + 2 * (s.1 : Int))), (4, si 0), (5, si s.1), (9, s.2.1), (18, s.2.2.1), (29, s.2.2.2)]) (fun s => mkO []) (fun s => s.1 ≤ l.length ∧ ∀ j, j < s.1 → l.getD j (0, false) = markA1 k j) (fun s => l.length - s.1) (0, .junk, .junk, .junk) (by simp) (by simp) rfl ?_
  rintro ⟨i, c, c', c2⟩ ⟨hi, hp⟩ R hR hN
  simp only at hi hp
  by_cases h : i < l.length
  · rcases slA_out hl with rfl | ⟨rfl, rfl⟩
    case inr => simp at h
    have h1 : (i : Int) < l.length := by omega
    have hw := wrap_one (i := i) (by omega)
    have hw2 : IntKind.i64.wrap (k + 2 * (i : Int) + 1) = k + 2 * (i : Int) + 1 := wrap64 (by omega) (by omega)
    have hw4 : IntKind.i64.wrap (k + 2 * (i : Int) + 1 + 1) = k + 2 * ((i + 1 : Nat) : Int) := by rw [wrap64 (by omega) (by omega)]; omega
    have hw3 := tmod3 (x := k + 2 * (i : Int) + 1) (by omega) (by omega)
    have hg := asks_get h
    by_cases he1 : (l.getD i (0, false)).1 = k + 2 * (i : Int)
    · have hn1 : ((l.getD i (0, false)).1 != k + 2 * (i : Int)) = false := by rw [he1]; exact bne_self_eq_false _
      by_cases he2 : (l.getD i (0, false)).2 = ((k + 2 * (i : Int) + 1).tmod 3 == 0)
      · have he' : ((l.getD i (0, false)).2 == ((k + 2 * (i : Int) + 1).tmod 3 == 0)) = true := by rw [he2]; exact beq_self_eq_true _
        simp only [hlen, h, h1, hw, hw2, hw3, hw4, hg, hn1, he', Int.reduceEq, Bool.not_true, ↓SP, SQ, Gam.add, stepM, callC, argC, lendO, nmBy, nmC, likeL, likeB, plainOb, offs, exL, X, F, trP, trO, stepD, stepW, newA, SV.tr, SV.trL, fz, allP, Ob.tr, loadA, cellsA, SV.cells, binA, binI, eqOut, isSl, isPt, natOf, callee, snap, SV.refsL, SV.refs, thaw, fzAll, loA, hiA, elemOf, partsA, buildA, putCells, ↓reduceIte, reduceCtorEq, okCell, Nat.reduceAdd, Nat.reduceEqDiff, Nat.reduceSub, Nat.reduceMul, Nat.reduceLeDiff, Nat.reduceLT, Nat.reduceBEq, PV.scal, PV.scalL, SV.scal, SV.scalL, Ob.scal, PV.isCell, pure', resO]
        refine hN (i + 1, _, _, _) _ _ ⟨by simp only; omega, fun j hj => ?_⟩ (by simp only; omega) rfl rfl
        simp only at hj
        by_cases hji : j = i
        · rw [hji]; exact Prod.ext he1 he2
        · exact hp j (by omega)
      · have he' : ((l.getD i (0, false)).2 == ((k + 2 * (i : Int) + 1).tmod 3 == 0)) = false := beq_eq_false_iff_ne.2 he2
        have hne : ¬ heldA l k := fun e => he2 (by rw [e i h]; rfl)
        simp only [hlen, h, h1, hw, hw2, hw3, hw4, hg, hn1, he', Int.reduceEq, Bool.not_false, ↓SP, SQ, Gam.add, stepM, callC, argC, lendO, nmBy, nmC, likeL, likeB, plainOb, offs, exL, X, F, trP, trO, stepD, stepW, newA, SV.tr, SV.trL, fz, allP, Ob.tr, loadA, cellsA, SV.cells, binA, binI, eqOut, isSl, isPt, natOf, callee, snap, SV.refsL, SV.refs, thaw, fzAll, loA, hiA, elemOf, partsA, buildA, putCells, ↓reduceIte, reduceCtorEq, okCell, Nat.reduceAdd, Nat.reduceEqDiff, Nat.reduceSub, Nat.reduceMul, Nat.reduceLeDiff, Nat.reduceLT, Nat.reduceBEq, PV.scal, PV.scalL, SV.scal, SV.scalL, Ob.scal, PV.isCell, pure', resO]
        refine hR _ _ _ (by intro h; cases h) ?_
        simp only [↓SP, SQ, Gam.add, stepM, callC, argC, lendO, nmBy, nmC, likeL, likeB, plainOb, offs, exL, X, F, trP, trO, stepD, stepW, newA, SV.tr, SV.trL, fz, allP, Ob.tr, loadA, cellsA, SV.cells, binA, binI, eqOut, isSl, isPt, natOf, callee, snap, SV.refsL, SV.refs, thaw, fzAll, loA, hiA, elemOf, partsA, buildA, putCells, ↓reduceIte, reduceCtorEq, okCell, Nat.reduceAdd, Nat.reduceEqDiff, Nat.reduceSub, Nat.reduceMul, Nat.reduceLeDiff, Nat.reduceLT, Nat.reduceBEq, PV.scal, PV.scalL, SV.scal, SV.scalL, Ob.scal, PV.isCell, pure', resO]
        exact finA_val (by simp [hne, retA, rvA, List.mapM_cons, List.mapM_nil, Option.pure_def, Option.bind_eq_bind, Option.bind_some, Option.map_some, mkE_cons, mk_nil, mkO_cons, mkO_nil, loadA, ↓reduceIte, List.take_succ_cons, List.take_zero, List.drop_zero, List.drop_succ_cons, List.length_cons, List.length_nil, Nat.reduceAdd, Nat.reduceEqDiff, Nat.reduceLeDiff, Nat.zero_add, Nat.le_refl, reduceCtorEq, SV.tr, SV.trL, nmF, rn_nil, rn_cons1, rn_cons2, List.map_cons, List.map_nil, List.all_cons, List.all_nil, plainOb, SV.refsL, SV.refs, Ob.refs, X, F, List.range_succ, List.range_zero, List.nil_append, List.cons_append, List.isEmpty_nil, decide_true, Nat.reduceLT, Bool.and_self, Bool.and_true, and_self, and_true, List.getElem?_cons_zero, List.getElem?_cons_succ, List.nodup_cons, List.nodup_nil, List.mem_cons, List.not_mem_nil, not_false_eq_true, or_false, List.append_nil, mkO, setO_mk, List.mem_singleton]) (by simp [SV.tr, SV.trL])
    · have hn1 : ((l.getD i (0, false)).1 != k + 2 * (i : Int)) = true := bne_iff_ne.2 he1
      have hne : ¬ heldA l k := fun e => he1 (by rw [e i h]; rfl)
      simp only [hlen, h, h1, hw, hw2, hw3, hw4, hg, hn1, Int.reduceEq, Bool.not_false, ↓SP, SQ, Gam.add, stepM, callC, argC, lendO, nmBy, nmC, likeL, likeB, plainOb, offs, exL, X, F, trP, trO, stepD, stepW, newA, SV.tr, SV.trL, fz, allP, Ob.tr, loadA, cellsA, SV.cells, binA, binI, eqOut, isSl, isPt, natOf, callee, snap, SV.refsL, SV.refs, thaw, fzAll, loA, hiA, elemOf, partsA, buildA, putCells, ↓reduceIte, reduceCtorEq, okCell, Nat.reduceAdd, Nat.reduceEqDiff, Nat.reduceSub, Nat.reduceMul, Nat.reduceLeDiff, Nat.reduceLT, Nat.reduceBEq, PV.scal, PV.scalL, SV.scal, SV.scalL, Ob.scal, PV.isCell, pure', resO]
      refine hR _ _ _ (by intro h; cases h) ?_
      simp only [↓SP, SQ, Gam.add, stepM, callC, argC, lendO, nmBy, nmC, likeL, likeB, plainOb, offs, exL, X, F, trP, trO, stepD, stepW, newA, SV.tr, SV.trL, fz, allP, Ob.tr, loadA, cellsA, SV.cells, binA, binI, eqOut, isSl, isPt, natOf, callee, snap, SV.refsL, SV.refs, thaw, fzAll, loA, hiA, elemOf, partsA, buildA, putCells, ↓reduceIte, reduceCtorEq, okCell, Nat.reduceAdd, Nat.reduceEqDiff, Nat.reduceSub, Nat.reduceMul, Nat.reduceLeDiff, Nat.reduceLT, Nat.reduceBEq, PV.scal, PV.scalL, SV.scal, SV.scalL, Ob.scal, PV.isCell, pure', resO]
      exact finA_val (by simp [hne, retA, rvA, List.mapM_cons, List.mapM_nil, Option.pure_def, Option.bind_eq_bind, Option.bind_some, Option.map_some, mkE_cons, mk_nil, mkO_cons, mkO_nil, loadA, ↓reduceIte, List.take_succ_cons, List.take_zero, List.drop_zero, List.drop_succ_cons, List.length_cons, List.length_nil, Nat.reduceAdd, Nat.reduceEqDiff, Nat.reduceLeDiff, Nat.zero_add, Nat.le_refl, reduceCtorEq, SV.tr, SV.trL, nmF, rn_nil, rn_cons1, rn_cons2, List.map_cons, List.map_nil, List.all_cons, List.all_nil, plainOb, SV.refsL, SV.refs, Ob.refs, X, F, List.range_succ, List.range_zero, List.nil_append, List.cons_append, List.isEmpty_nil, decide_true, Nat.reduceLT, Bool.and_self, Bool.and_true, and_self, and_true, List.getElem?_cons_zero, List.getElem?_cons_succ, List.nodup_cons, List.nodup_nil, List.mem_cons, List.not_mem_nil, not_false_eq_true, or_false, List.append_nil, mkO, setO_mk, List.mem_singleton]) (by simp [SV.tr, SV.trL])
  · have he : i = l.length := by omega
    have h1 : ¬ (i : Int) < l.length := by omega
    have hd : heldA l k := fun j hj => hp j (by omega)
    simp only [hlen, h1, ↓SP, SQ, Gam.add, stepM, callC, argC, lendO, nmBy, nmC, likeL, likeB, plainOb, offs, exL, X, F, trP, trO, stepD, stepW, newA, SV.tr, SV.trL, fz, allP, Ob.tr, loadA, cellsA, SV.cells, binA, binI, eqOut, isSl, isPt, natOf, callee, snap, SV.refsL, SV.refs, thaw, fzAll, loA, hiA, elemOf, partsA, buildA, putCells, ↓reduceIte, reduceCtorEq, okCell, Nat.reduceAdd, Nat.reduceEqDiff, Nat.reduceSub, Nat.reduceMul, Nat.reduceLeDiff, Nat.reduceLT, Nat.reduceBEq, PV.scal, PV.scalL, SV.scal, SV.scalL, Ob.scal, PV.isCell, pure', resO]
    refine hR _ _ _ (by intro h; cases h) ?_
    simp only [↓SP, SQ, Gam.add, stepM, callC, argC, lendO, nmBy, nmC, likeL, likeB, plainOb, offs, exL, X, F, trP, trO, stepD, stepW, newA, SV.tr, SV.trL, fz, allP, Ob.tr, loadA, cellsA, SV.cells, binA, binI, eqOut, isSl, isPt, natOf, callee, snap, SV.refsL, SV.refs, thaw, fzAll, loA, hiA, elemOf, partsA, buildA, putCells, ↓reduceIte, reduceCtorEq, okCell, Nat.reduceAdd, Nat.reduceEqDiff, Nat.reduceSub, Nat.reduceMul, Nat.reduceLeDiff, Nat.reduceLT, Nat.reduceBEq, PV.scal, PV.scalL, SV.scal, SV.scalL, Ob.scal, PV.isCell, pure', resO]
    subst he
    exact finA_val (by simp [hd, retA, rvA, List.mapM_cons, List.mapM_nil, Option.pure_def, Option.bind_eq_bind, Option.bind_some, Option.map_some, mkE_cons, mk_nil, mkO_cons, mkO_nil, loadA, ↓reduceIte, List.take_succ_cons, List.take_zero, List.drop_zero, List.drop_succ_cons, List.length_cons, List.length_nil, Nat.reduceAdd, Nat.reduceEqDiff, Nat.reduceLeDiff, Nat.zero_add, Nat.le_refl, reduceCtorEq, SV.tr, SV.trL, nmF, rn_nil, rn_cons1, rn_cons2, List.map_cons, List.map_nil, List.all_cons, List.all_nil, plainOb, SV.refsL, SV.refs, Ob.refs, X, F, List.range_succ, List.range_zero, List.nil_append, List.cons_append, List.isEmpty_nil, decide_true, Nat.reduceLT, Bool.and_self, Bool.and_true, and_self, and_true, List.getElem?_cons_zero, List.getElem?_cons_succ, List.nodup_cons, List.nodup_nil, List.mem_cons, List.not_mem_nil, not_false_eq_true, or_false, List.append_nil, mkO, setO_mk, List.mem_singleton]) (by simp [SV.tr, SV.trL])
/-- What the answerer says. -/
def yP (m : Int) (s : Nat) (la : Int) (x : List Int) (n : Nat) : Bool := decide (s < kbT m x) != decide ((n : Int) = la)
def plF (m : Int) (s : Nat) (la : Int) : Nat → List Int → List (Int × Bool) → List (Int × Bool)
  | 0, _, out => out
  | f + 1, x, out => if (opens x).length < 2 then out else plF m s la f (aftL m (kbT m x) (yP m s la x out.length) x) (out ++ [(lsQ (kbT m x), yP m s la x out.length)])
def plR (m : Int) (s : Nat) (la : Int) (x : List Int) : List (Int × Bool) := plF m s la (msL m x) x []
theorem plF_done {m : Int} {s : Nat} {la : Int} {x : List Int} (h : (opens x).length < 2) : ∀ f out, plF m s la f x out = out
  | 0, _ => rfl
  | f + 1, out => by rw [plF, if_pos h]
theorem plF_len (m : Int) (s : Nat) (la : Int) : ∀ f x out, (plF m s la f x out).length ≤ out.length + f
  | 0, _, out => by simp [plF]
  | f + 1, x, out => by
    rw [plF]
    split
    · omega
    · have := plF_len m s la f (aftL m (kbT m x) (yP m s la x out.length) x) (out ++ [(lsQ (kbT m x), yP m s la x out.length)])
      simp only [List.length_append, List.length_cons, List.length_nil] at this
      omega
theorem plR_len {m : Int} {s : Nat} {la : Int} {x : List Int} (h : isSh x m = true) : (plR m s la x).length ≤ 10 := by
  have := plF_len m s la (msL m x) x []
  have := (CS.of h).le
  simp only [plR, List.length_nil] at *
  omega
theorem aft_at {m : Int} {k : Nat} {y : Bool} {x : List Int} {s : Nat} (h : s < x.length) (h0 : 0 ≤ x.getD s 0) : (aftL m k y x).getD s 0 = if (decide (s < k) != y) = true then (if m < x.getD s 0 + 1 then -1 else x.getD s 0 + 1) else x.getD s 0 := by
  rw [aftL, afterL, getD_lt (by simpa using h)]
  simp only [List.getElem_map, List.getElem_range, afterF]
  by_cases hf : (decide (s < k) != y) = true
  · rw [if_pos ⟨h0, hf⟩, if_pos hf]
  · rw [if_neg (fun e => hf e.2), if_neg hf]
theorem yP_lie (m : Int) (s : Nat) (la : Int) (x : List Int) (n : Nat) : (decide (s < kbT m x) != yP m s la x n) = decide ((n : Int) = la) := by
  simp only [yP]
  cases decide (s < kbT m x) <;> cases decide ((n : Int) = la) <;> rfl
/-- Whether a play comes to its end. -/
def okY (x : List Int) (m s la : Int) : Bool := isSh x m && opn x s && decide (-1 ≤ la) && !(decide (0 ≤ la) && decide (m ≤ x.getD s.toNat 0)) && !decide (((plR m s.toNat la x).length : Int) ≤ la)
theorem opn_nat {x : List Int} {s : Int} (h : opn x s = true) : 0 ≤ s ∧ s.toNat < x.length ∧ 0 ≤ x.getD s.toNat 0 := by
  simp only [opn, Bool.and_eq_true, decide_eq_true_eq] at h
  omega
theorem opn_eq {x : List Int} {s : Nat} (h : s < x.length) : opn x (s : Int) = decide (0 ≤ x.getD s 0) := by
  simp only [opn, Int.toNat_natCast]
  rw [dec_t (by omega), dec_t (by omega)]; rfl
/-- One step of a play. -/
structure PS (m : Int) (s : Nat) (la : Int) (z : List Int) (n : Nat) : Prop where
  sh : isSh (aftL m (kbT m z) (yP m s la z n) z) m = true
  ms : msL m (aftL m (kbT m z) (yP m s la z n) z) < msL m z
  at' : (aftL m (kbT m z) (yP m s la z n) z).getD s 0 = if (n : Int) = la then (if m < z.getD s 0 + 1 then -1 else z.getD s 0 + 1) else z.getD s 0
theorem PS.of {m : Int} {s : Nat} {la : Int} {z : List Int} {n : Nat} (hs : isSh z m = true) (ho : ¬ (opens z).length < 2) (h : s < z.length) (h0 : 0 ≤ z.getD s 0) : PS m s la z n := by
  have C := CS.of hs
  obtain ⟨k1, k2, k3⟩ := kbT_bd hs ho
  simp only [hitT, Bool.and_eq_true] at k3
  have hv := k3.1
  simp only [vldT, Bool.and_eq_true, Bool.not_eq_true', decide_eq_false_iff_not] at hv
  refine ⟨C.sh _ k1 k2 _, C.ms _ k1 k2 _ ?_, ?_⟩
  · cases yP m s la z n with
    | false => exact hv.1
    | true => exact hv.2
  · rw [aft_at h h0, yP_lie]
    by_cases e : (n : Int) = la
    · simp [e]
    · simp [e]
structure W7 where
  x : List Int
  out : List (Int × Bool)
  E : ES
  f : Nat
  a : SV
  b : SV
  c : SV
  d : SV
  o : Option Ob
  p : Option Ob
def a_LessPlay (f_isShort : FuncId) (f_isOpen : FuncId) (f_newLesser : FuncId) (f_opened : FuncId) (f_lbest : FuncId) (f_less : FuncId) (f_has : FuncId) (f_answered : FuncId) : AFn := ⟨3, 
  .seq (.reg [⟨some 3, none, .w (.box 2 (.t 0))⟩,
    ⟨some 6, none, .d (.mv (.c (.nilsl)))⟩,
    ⟨some 7, none, .d (.mv (.c (.bool false)))⟩])
  (.seq (.seq (.reg [⟨some 12, none, .d (.load true 2 (.t 3))⟩,
    ⟨some 13, none, .d (.call (.f f_isShort) [(.t 12)])⟩,
    ⟨some 14, none, .d (.not (.t 13))⟩,
    ⟨some 15, none, .d (.mv (.t 14))⟩,
    ⟨some 16, some (15, false), .d (.load true 2 (.t 3))⟩,
    ⟨some 17, some (15, false), .d (.mv (.t 1))⟩,
    ⟨some 18, some (15, false), .d (.call (.f f_isOpen) [(.t 16), (.t 17)])⟩,
    ⟨some 19, some (15, false), .d (.not (.t 18))⟩,
    ⟨some 20, none, .d (.pick (.t 15) (.c (.bool true)) (.t 19))⟩,
    ⟨some 21, none, .d (.mv (.t 20))⟩,
    ⟨some 22, some (21, false), .d (.mv (.t 2))⟩,
    ⟨some 23, some (21, false), .d (.bin .arith .lss (.t 22) (.c (.int .i64 (-1))))⟩,
    ⟨some 24, none, .d (.pick (.t 21) (.c (.bool true)) (.t 23))⟩])
  (.cond (.t 24) (.seq (.reg [⟨some 6, none, .d (.mv (.c (.nilsl)))⟩,
     ⟨some 7, none, .d (.mv (.c (.bool false)))⟩])
   (.ret)) (.skip)))
  (.seq (.reg [⟨some 25, none, .w (.callL (.f f_newLesser) [] [] 1 false)⟩,
    ⟨some 26, none, .w (.bslice 2 [] [])⟩,
    ⟨some 8, none, .w (.alloc [.nilmap])⟩,
    ⟨none, none, .w (.store 1 (.t 8) (.t 25))⟩,
    ⟨some 9, none, .d (.mv (.t 26))⟩])
  (.seq (.seq (.reg [⟨some 27, none, .d (.load true 2 (.t 3))⟩,
    ⟨some 10, none, .w (.alloc [.nilsl, .int .i64 0])⟩,
    ⟨none, none, .w (.store 2 (.t 10) (.t 27))⟩])
  (.block 0 (.loop (.seq (.seq (.reg [⟨some 28, none, .d (.load true 2 (.t 10))⟩,
      ⟨some 29, none, .d (.call (.f f_opened) [(.t 28)])⟩,
      ⟨some 30, none, .d (.len (.t 29))⟩,
      ⟨some 31, none, .d (.bin .arith .gtr (.t 30) (.c (.int .i64 1)))⟩])
    (.cond (.t 31) (.skip) (.exit 0)))
    (.seq (.block 1 (.seq (.reg [⟨some 32, none, .d (.load true 1 (.t 8))⟩,
       ⟨some 33, none, .d (.load true 2 (.t 10))⟩,
       ⟨some 34, none, .w (.callL (.f f_lbest) [(.t 32), (.t 33)] [25] 0 false)⟩,
       ⟨some 35, none, .d (.call (.f f_less) [(.t 34)])⟩,
       ⟨some 36, none, .d (.build [.int .i64 0, .bool false] [(0, 1, (.t 35))])⟩,
       ⟨some 11, none, .w (.alloc [.int .i64 0, .bool false])⟩,
       ⟨none, none, .w (.store 2 (.t 11) (.t 36))⟩])
     (.seq (.reg [⟨some 37, none, .d (.fa 0 (.t 11))⟩,
       ⟨some 38, none, .d (.load false 1 (.t 37))⟩,
       ⟨some 39, none, .d (.mv (.t 1))⟩,
       ⟨some 40, none, .d (.call (.f f_has) [(.t 38), (.t 39)])⟩,
       ⟨some 41, none, .d (.mv (.t 9))⟩,
       ⟨some 42, none, .d (.len (.t 41))⟩,
       ⟨some 43, none, .d (.mv (.t 2))⟩,
       ⟨some 44, none, .d (.bin .arith .eql (.t 42) (.t 43))⟩,
       ⟨some 45, none, .d (.bin .bool .neq (.t 40) (.t 44))⟩,
       ⟨some 46, none, .d (.fa 1 (.t 11))⟩,
       ⟨none, none, .w (.store 1 (.t 46) (.t 45))⟩])
     (.seq (.reg [⟨some 47, none, .d (.load true 2 (.t 10))⟩,
       ⟨some 48, none, .d (.load true 2 (.t 11))⟩,
       ⟨some 49, none, .d (.call (.f f_answered) [(.t 47), (.t 48)])⟩,
       ⟨none, none, .w (.store 2 (.t 10) (.t 49))⟩])
     (.seq (.seq (.reg [⟨some 50, none, .d (.load true 2 (.t 10))⟩,
       ⟨some 51, none, .d (.mv (.t 1))⟩,
       ⟨some 52, none, .d (.call (.f f_isOpen) [(.t 50), (.t 51)])⟩,
       ⟨some 53, none, .d (.not (.t 52))⟩])
     (.cond (.t 53) (.seq (.reg [⟨some 6, none, .d (.mv (.c (.nilsl)))⟩,
        ⟨some 7, none, .d (.mv (.c (.bool false)))⟩])
      (.ret)) (.skip)))
     (.reg [⟨some 54, none, .d (.mv (.t 9))⟩,
       ⟨some 55, none, .d (.load true 2 (.t 11))⟩,
       ⟨some 56, none, .w (.bslice 2 [.agg [.int .i64 0, .bool false]] [(0, (.t 55))])⟩,
       ⟨some 57, none, .w (.append 2 (.t 54) (.t 56))⟩,
       ⟨some 9, none, .d (.mv (.t 57))⟩]))))))
    (.seq (.reg [⟨some 58, none, .d (.load true 2 (.t 10))⟩])
    (.reg [⟨some 10, none, .w (.alloc [.nilsl, .int .i64 0])⟩,
      ⟨none, none, .w (.store 2 (.t 10) (.t 58))⟩])))))))
  (.seq (.seq (.reg [⟨some 59, none, .d (.mv (.t 2))⟩,
    ⟨some 60, none, .d (.mv (.t 9))⟩,
    ⟨some 61, none, .d (.len (.t 60))⟩,
    ⟨some 62, none, .d (.bin .arith .geq (.t 59) (.t 61))⟩])
  (.cond (.t 62) (.seq (.reg [⟨some 6, none, .d (.mv (.c (.nilsl)))⟩,
     ⟨some 7, none, .d (.mv (.c (.bool false)))⟩])
   (.ret)) (.skip)))
  (.seq (.reg [⟨some 63, none, .d (.mv (.t 9))⟩,
    ⟨some 6, none, .d (.mv (.t 63))⟩,
    ⟨some 7, none, .d (.mv (.c (.bool true)))⟩])
  (.ret)))))), [.tmp 6, .tmp 7]⟩
def n_LessPlay : Nat → Option Ann := fun d => if d = 25 then some ⟨[], 1, false⟩ else if d = 34 then some ⟨[25], 0, false⟩ else none
abbrev k_LessPlay : List Nat := [0, 1, 2, 3, 6, 7, 8, 9, 10, 11, 24, 31, 53, 58, 62]
abbrev o_LessPlay : List Nat := [3, 8, 10, 11, 25, 26, 56, 57]
def a_s_LessPlay (f_l6Short : FuncId) (f_l1In : FuncId) (f_l6Needs : FuncId) (f_l6Done : FuncId) (f_l6Best : FuncId) (f_l6After : FuncId) : AFn := ⟨3, 
  .seq (.reg [⟨some 3, none, .w (.box 2 (.t 0))⟩,
    ⟨some 6, none, .d (.mv (.c (.nilsl)))⟩,
    ⟨some 7, none, .d (.mv (.c (.bool false)))⟩])
  (.seq (.reg [⟨some 12, none, .w (.bslice 2 [] [])⟩,
    ⟨some 8, none, .d (.mv (.t 12))⟩])
  (.seq (.seq (.dreg [] [([], ⟨some 13, none, .d (.load true 2 (.t 3))⟩),
    ([], ⟨some 14, none, .d (.call (.f f_l6Short) [(.t 13)])⟩),
    ([], ⟨some 15, none, .d (.not (.t 14))⟩),
    ([], ⟨some 16, none, .d (.mv (.t 15))⟩),
    ([], ⟨some 17, some (16, false), .d (.mv (.t 1))⟩),
    ([], ⟨some 18, some (16, false), .d (.fa 0 (.t 3))⟩),
    ([], ⟨some 19, some (16, false), .d (.load false 1 (.t 18))⟩),
    ([], ⟨some 20, some (16, false), .d (.len (.t 19))⟩),
    ([], ⟨some 21, some (16, false), .d (.bin .arith .sub (.t 20) (.c (.int .i64 1)))⟩),
    ([], ⟨some 22, some (16, false), .d (.call (.f f_l1In) [(.t 17), (.c (.int .i64 0)), (.t 21)])⟩),
    ([], ⟨some 23, some (16, false), .d (.not (.t 22))⟩),
    ([], ⟨some 24, none, .d (.pick (.t 16) (.c (.bool true)) (.t 23))⟩),
    ([], ⟨some 25, none, .d (.mv (.t 24))⟩),
    ([], ⟨some 26, some (25, false), .d (.fa 0 (.t 3))⟩),
    ([], ⟨some 27, some (25, false), .d (.load false 1 (.t 26))⟩),
    ([], ⟨some 28, some (25, false), .d (.mv (.t 1))⟩),
    ([], ⟨some 29, some (25, false), .d (.ia 1 (.t 27) (.t 28))⟩),
    ([], ⟨some 30, some (25, false), .d (.load false 1 (.t 29))⟩),
    ([], ⟨some 31, some (25, false), .d (.bin .arith .lss (.t 30) (.c (.int .i64 0)))⟩),
    ([], ⟨some 32, none, .d (.pick (.t 25) (.c (.bool true)) (.t 31))⟩),
    ([], ⟨some 33, none, .d (.mv (.t 32))⟩),
    ([], ⟨some 34, some (33, false), .d (.mv (.t 2))⟩),
    ([], ⟨some 35, some (33, false), .d (.bin .arith .lss (.t 34) (.c (.int .i64 (-1))))⟩),
    ([], ⟨some 36, none, .d (.pick (.t 33) (.c (.bool true)) (.t 35))⟩),
    ([], ⟨some 37, none, .d (.mv (.t 36))⟩),
    ([], ⟨some 38, some (37, false), .d (.mv (.t 2))⟩),
    ([], ⟨some 39, some (37, false), .d (.bin .arith .geq (.t 38) (.c (.int .i64 0)))⟩),
    ([], ⟨some 40, some (37, false), .d (.mv (.t 39))⟩),
    ([], ⟨some 41, some (40, true), .d (.fa 0 (.t 3))⟩),
    ([], ⟨some 42, some (40, true), .d (.load false 1 (.t 41))⟩),
    ([], ⟨some 43, some (40, true), .d (.mv (.t 1))⟩),
    ([], ⟨some 44, some (40, true), .d (.ia 1 (.t 42) (.t 43))⟩),
    ([], ⟨some 45, some (40, true), .d (.load false 1 (.t 44))⟩),
    ([], ⟨some 46, some (40, true), .d (.fa 1 (.t 3))⟩),
    ([], ⟨some 47, some (40, true), .d (.load false 1 (.t 46))⟩)] [⟨some 48, some (40, true), .d (.bin .arith .geq (.t 45) (.t 47))⟩,
    ⟨some 49, some (37, false), .d (.pick (.t 40) (.t 48) (.c (.bool false)))⟩,
    ⟨some 50, none, .d (.pick (.t 37) (.c (.bool true)) (.t 49))⟩])
  (.cond (.t 50) (.seq (.reg [⟨some 51, none, .d (.mv (.t 8))⟩,
     ⟨some 6, none, .d (.mv (.t 51))⟩,
     ⟨some 7, none, .d (.mv (.c (.bool false)))⟩])
   (.ret)) (.skip)))
  (.seq (.reg [⟨some 52, none, .d (.fa 0 (.t 3))⟩,
    ⟨some 53, none, .d (.load false 1 (.t 52))⟩,
    ⟨some 54, none, .d (.len (.t 53))⟩,
    ⟨some 55, none, .d (.fa 1 (.t 3))⟩,
    ⟨some 56, none, .d (.load false 1 (.t 55))⟩,
    ⟨some 57, none, .d (.call (.f f_l6Needs) [(.t 54), (.t 56)])⟩,
    ⟨some 9, none, .d (.mv (.t 57))⟩])
  (.seq (.block 0 (.loop (.seq (.seq (.reg [⟨some 58, none, .d (.load true 2 (.t 3))⟩,
      ⟨some 59, none, .d (.call (.f f_l6Done) [(.t 58)])⟩,
      ⟨some 60, none, .d (.not (.t 59))⟩])
    (.cond (.t 60) (.skip) (.exit 0)))
    (.block 1 (.seq (.reg [⟨some 61, none, .d (.load true 2 (.t 3))⟩,
       ⟨some 62, none, .d (.mv (.t 9))⟩,
       ⟨some 63, none, .d (.call (.f f_l6Best) [(.t 61), (.t 62)])⟩,
       ⟨some 10, none, .d (.mv (.t 63))⟩])
     (.seq (.reg [⟨some 64, none, .d (.mv (.t 1))⟩,
       ⟨some 65, none, .d (.mv (.t 10))⟩,
       ⟨some 66, none, .d (.bin .arith .lss (.t 64) (.t 65))⟩,
       ⟨some 67, none, .d (.mv (.t 8))⟩,
       ⟨some 68, none, .d (.len (.t 67))⟩,
       ⟨some 69, none, .d (.mv (.t 2))⟩,
       ⟨some 70, none, .d (.bin .arith .eql (.t 68) (.t 69))⟩,
       ⟨some 71, none, .d (.bin .bool .neq (.t 66) (.t 70))⟩,
       ⟨some 11, none, .d (.mv (.t 71))⟩])
     (.seq (.reg [⟨some 72, none, .d (.mv (.t 8))⟩,
       ⟨some 73, none, .d (.mv (.t 10))⟩,
       ⟨some 74, none, .d (.bin .arith .shl (.c (.int .i64 1)) (.t 73))⟩,
       ⟨some 75, none, .d (.bin .arith .sub (.t 74) (.c (.int .i64 1)))⟩,
       ⟨some 76, none, .d (.mv (.t 11))⟩,
       ⟨some 77, none, .d (.build [.int .i64 0, .bool false] [(0, 1, (.t 75)), (1, 1, (.t 76))])⟩,
       ⟨some 78, none, .w (.bslice 2 [.agg [.int .i64 0, .bool false]] [(0, (.t 77))])⟩,
       ⟨some 79, none, .w (.append 2 (.t 72) (.t 78))⟩,
       ⟨some 8, none, .d (.mv (.t 79))⟩])
     (.reg [⟨some 80, none, .d (.load true 2 (.t 3))⟩,
       ⟨some 81, none, .d (.mv (.t 10))⟩,
       ⟨some 82, none, .d (.mv (.t 11))⟩,
       ⟨some 83, none, .d (.call (.f f_l6After) [(.t 80), (.t 81), (.t 82)])⟩,
       ⟨none, none, .w (.store 2 (.t 3) (.t 83))⟩]))))))))
  (.seq (.seq (.reg [⟨some 84, none, .d (.mv (.t 2))⟩,
    ⟨some 85, none, .d (.mv (.t 8))⟩,
    ⟨some 86, none, .d (.len (.t 85))⟩,
    ⟨some 87, none, .d (.bin .arith .geq (.t 84) (.t 86))⟩])
  (.cond (.t 87) (.seq (.reg [⟨some 88, none, .w (.bslice 2 [] [])⟩,
     ⟨some 6, none, .d (.mv (.t 88))⟩,
     ⟨some 7, none, .d (.mv (.c (.bool false)))⟩])
   (.ret)) (.skip)))
  (.seq (.reg [⟨some 89, none, .d (.mv (.t 8))⟩,
    ⟨some 6, none, .d (.mv (.t 89))⟩,
    ⟨some 7, none, .d (.mv (.c (.bool true)))⟩])
  (.ret))))))), [.tmp 6, .tmp 7]⟩
def n_s_LessPlay : Nat → Option Ann := fun _ => none
abbrev k_s_LessPlay : List Nat := [0, 1, 2, 3, 6, 7, 8, 9, 10, 11, 50, 60, 87]
abbrev o_s_LessPlay : List Nat := [3, 12, 78, 79, 88]
def c_LessPlay : Con := pure' fun
  | [.p (.agg [.sl 1 x_, .int .i64 m]), .p (.int .i64 s), .p (.int .i64 la)] => if isI x_ = true ∧ ((ofI x_).length ≤ 1100000) then some (if okY (ofI x_) m s la = true then .tp [.ar 2000000, .p (.bool true)] else .tp [.p .nilsl, .p (.bool false)], if okY (ofI x_) m s la = true then [.arr 2 (asks (plR m s.toNat la (ofI x_)))] else []) else none
  | _ => none
set_option maxHeartbeats 4000000 in
theorem s_LessPlay {P : Program} (hm : P.follows .mixedOrders = true) {Γ : Gam} (hΓ : GS P Γ) {n : FuncId} {f_isShort : FuncId} {f_isOpen : FuncId} {f_newLesser : FuncId} {f_opened : FuncId} {f_lbest : FuncId} {f_less : FuncId} {f_has : FuncId} {f_answered : FuncId} (is : Is P n (a_LessPlay f_isShort f_isOpen f_newLesser f_opened f_lbest f_less f_has f_answered)) (h_isShort : Γ f_isShort = c_isShort) (h_isOpen : Γ f_isOpen = c_isOpen) (h_newLesser : Γ f_newLesser = c_newLesser) (h_opened : Γ f_opened = c_l2Open) (h_lbest : Γ f_lbest = c_lbest) (h_less : Γ f_less = c_less) (h_has : Γ f_has = c_has) (h_answered : Γ f_answered = c_answered)  : Says P n c_LessPlay := by
  refine Says.pure fun args r fs h => ?_
  split at h
  case h_2 => cases h
  rename_i x_ m s la
  split at h
  case isFalse => cases h
  rename_i hc
  obtain ⟨hx_, hc⟩ := hc
  obtain ⟨x, rfl⟩ := isI_out hx_
  simp only [ofI_ints, ofBo_bools, ofAs_asks, Option.some.injEq, Prod.mk.injEq] at h hc
  obtain ⟨rfl, rfl⟩ := h
  cases h1 : isSh x m with
  | false =>
    have hp : okY x m s la = false := by simp only [okY, h1, Bool.false_and]
    refine is.go hm hΓ k_LessPlay o_LessPlay (by simp [a_LessPlay]) ?_
    simp only [a_LessPlay, h_isShort, c_isShort, h_isOpen, c_isOpen, h_newLesser, c_newLesser, h_opened, c_l2Open, h_lbest, c_lbest, h_less, c_less, h_has, c_has, h_answered, c_answered, hc, h1, hp, Bool.false_eq_true, List.zipIdx_cons, List.zipIdx_nil, ↓SP, SQ, Gam.add, stepM, callC, argC, lendO, nmBy, nmC, likeL, likeB, plainOb, offs, exL, X, F, trP, trO, stepD, stepW, newA, SV.tr, SV.trL, fz, allP, Ob.tr, loadA, cellsA, SV.cells, binA, binI, eqOut, isSl, isPt, natOf, callee, snap, SV.refsL, SV.refs, thaw, fzAll, loA, hiA, elemOf, partsA, buildA, putCells, ↓reduceIte, reduceCtorEq, okCell, Nat.reduceAdd, Nat.reduceEqDiff, Nat.reduceSub, Nat.reduceMul, Nat.reduceLeDiff, Nat.reduceLT, Nat.reduceBEq, PV.scal, PV.scalL, SV.scal, SV.scalL, Ob.scal, PV.isCell, pure', resO]
    refine finA_gen [] trivial (by simp [retA, rvA, List.mapM_cons, List.mapM_nil, Option.pure_def, Option.bind_eq_bind, Option.bind_some, Option.map_some, mkE_cons, mk_nil, mkO_cons, mkO_nil, loadA, ↓reduceIte, List.take_succ_cons, List.take_zero, List.drop_zero, List.drop_succ_cons, List.length_cons, List.length_nil, Nat.reduceAdd, Nat.reduceEqDiff, Nat.reduceLeDiff, Nat.zero_add, Nat.le_refl, reduceCtorEq, SV.tr, SV.trL, nmF, rn_nil, rn_cons1, rn_cons2, List.map_cons, List.map_nil, List.all_cons, List.all_nil, plainOb, SV.refsL, SV.refs, Ob.refs, X, F, List.range_succ, List.range_zero, List.nil_append, List.cons_append, List.isEmpty_nil, decide_true, Nat.reduceLT, Bool.and_self, Bool.and_true, and_self, and_true, List.getElem?_cons_zero, List.getElem?_cons_succ, List.nodup_cons, List.nodup_nil, List.mem_cons, List.not_mem_nil, not_false_eq_true, or_false, List.append_nil, mkO, setO_mk, List.mem_singleton]; rfl) ?_ ?_ ?_ ?_ ?_ ?_ ?_ <;> simp [retA, rvA, List.mapM_cons, List.mapM_nil, Option.pure_def, Option.bind_eq_bind, Option.bind_some, Option.map_some, mkE_cons, mk_nil, mkO_cons, mkO_nil, loadA, ↓reduceIte, List.take_succ_cons, List.take_zero, List.drop_zero, List.drop_succ_cons, List.length_cons, List.length_nil, Nat.reduceAdd, Nat.reduceEqDiff, Nat.reduceLeDiff, Nat.zero_add, Nat.le_refl, reduceCtorEq, SV.tr, SV.trL, nmF, rn_nil, rn_cons1, rn_cons2, List.map_cons, List.map_nil, List.all_cons, List.all_nil, plainOb, SV.refsL, SV.refs, Ob.refs, X, F, List.range_succ, List.range_zero, List.nil_append, List.cons_append, List.isEmpty_nil, decide_true, Nat.reduceLT, Bool.and_self, Bool.and_true, and_self, and_true, List.getElem?_cons_zero, List.getElem?_cons_succ, List.nodup_cons, List.nodup_nil, List.mem_cons, List.not_mem_nil, not_false_eq_true, or_false, List.append_nil, mkO, setO_mk, List.mem_singleton]
  | true =>
    cases h2 : opn x s with
    | false =>
      have hp : okY x m s la = false := by simp only [okY, h2, Bool.and_false, Bool.false_and]
      refine is.go hm hΓ k_LessPlay o_LessPlay (by simp [a_LessPlay]) ?_
      simp only [a_LessPlay, h_isShort, c_isShort, h_isOpen, c_isOpen, h_newLesser, c_newLesser, h_opened, c_l2Open, h_lbest, c_lbest, h_less, c_less, h_has, c_has, h_answered, c_answered, hc, h1, h2, hp, Bool.false_eq_true, List.zipIdx_cons, List.zipIdx_nil, ↓SP, SQ, Gam.add, stepM, callC, argC, lendO, nmBy, nmC, likeL, likeB, plainOb, offs, exL, X, F, trP, trO, stepD, stepW, newA, SV.tr, SV.trL, fz, allP, Ob.tr, loadA, cellsA, SV.cells, binA, binI, eqOut, isSl, isPt, natOf, callee, snap, SV.refsL, SV.refs, thaw, fzAll, loA, hiA, elemOf, partsA, buildA, putCells, ↓reduceIte, reduceCtorEq, okCell, Nat.reduceAdd, Nat.reduceEqDiff, Nat.reduceSub, Nat.reduceMul, Nat.reduceLeDiff, Nat.reduceLT, Nat.reduceBEq, PV.scal, PV.scalL, SV.scal, SV.scalL, Ob.scal, PV.isCell, pure', resO]
      refine finA_gen [] trivial (by simp [retA, rvA, List.mapM_cons, List.mapM_nil, Option.pure_def, Option.bind_eq_bind, Option.bind_some, Option.map_some, mkE_cons, mk_nil, mkO_cons, mkO_nil, loadA, ↓reduceIte, List.take_succ_cons, List.take_zero, List.drop_zero, List.drop_succ_cons, List.length_cons, List.length_nil, Nat.reduceAdd, Nat.reduceEqDiff, Nat.reduceLeDiff, Nat.zero_add, Nat.le_refl, reduceCtorEq, SV.tr, SV.trL, nmF, rn_nil, rn_cons1, rn_cons2, List.map_cons, List.map_nil, List.all_cons, List.all_nil, plainOb, SV.refsL, SV.refs, Ob.refs, X, F, List.range_succ, List.range_zero, List.nil_append, List.cons_append, List.isEmpty_nil, decide_true, Nat.reduceLT, Bool.and_self, Bool.and_true, and_self, and_true, List.getElem?_cons_zero, List.getElem?_cons_succ, List.nodup_cons, List.nodup_nil, List.mem_cons, List.not_mem_nil, not_false_eq_true, or_false, List.append_nil, mkO, setO_mk, List.mem_singleton]; rfl) ?_ ?_ ?_ ?_ ?_ ?_ ?_ <;> simp [retA, rvA, List.mapM_cons, List.mapM_nil, Option.pure_def, Option.bind_eq_bind, Option.bind_some, Option.map_some, mkE_cons, mk_nil, mkO_cons, mkO_nil, loadA, ↓reduceIte, List.take_succ_cons, List.take_zero, List.drop_zero, List.drop_succ_cons, List.length_cons, List.length_nil, Nat.reduceAdd, Nat.reduceEqDiff, Nat.reduceLeDiff, Nat.zero_add, Nat.le_refl, reduceCtorEq, SV.tr, SV.trL, nmF, rn_nil, rn_cons1, rn_cons2, List.map_cons, List.map_nil, List.all_cons, List.all_nil, plainOb, SV.refsL, SV.refs, Ob.refs, X, F, List.range_succ, List.range_zero, List.nil_append, List.cons_append, List.isEmpty_nil, decide_true, Nat.reduceLT, Bool.and_self, Bool.and_true, and_self, and_true, List.getElem?_cons_zero, List.getElem?_cons_succ, List.nodup_cons, List.nodup_nil, List.mem_cons, List.not_mem_nil, not_false_eq_true, or_false, List.append_nil, mkO, setO_mk, List.mem_singleton]
    | true =>
      by_cases h3 : la < -1
      · have hp : okY x m s la = false := by simp only [okY, dec_f (show ¬ (-1 ≤ la) by omega), Bool.and_false, Bool.false_and]
        refine is.go hm hΓ k_LessPlay o_LessPlay (by simp [a_LessPlay]) ?_
        simp only [a_LessPlay, h_isShort, c_isShort, h_isOpen, c_isOpen, h_newLesser, c_newLesser, h_opened, c_l2Open, h_lbest, c_lbest, h_less, c_less, h_has, c_has, h_answered, c_answered, hc, h1, h2, h3, hp, Bool.false_eq_true, List.zipIdx_cons, List.zipIdx_nil, ↓SP, SQ, Gam.add, stepM, callC, argC, lendO, nmBy, nmC, likeL, likeB, plainOb, offs, exL, X, F, trP, trO, stepD, stepW, newA, SV.tr, SV.trL, fz, allP, Ob.tr, loadA, cellsA, SV.cells, binA, binI, eqOut, isSl, isPt, natOf, callee, snap, SV.refsL, SV.refs, thaw, fzAll, loA, hiA, elemOf, partsA, buildA, putCells, ↓reduceIte, reduceCtorEq, okCell, Nat.reduceAdd, Nat.reduceEqDiff, Nat.reduceSub, Nat.reduceMul, Nat.reduceLeDiff, Nat.reduceLT, Nat.reduceBEq, PV.scal, PV.scalL, SV.scal, SV.scalL, Ob.scal, PV.isCell, pure', resO]
        refine finA_gen [] trivial (by simp [retA, rvA, List.mapM_cons, List.mapM_nil, Option.pure_def, Option.bind_eq_bind, Option.bind_some, Option.map_some, mkE_cons, mk_nil, mkO_cons, mkO_nil, loadA, ↓reduceIte, List.take_succ_cons, List.take_zero, List.drop_zero, List.drop_succ_cons, List.length_cons, List.length_nil, Nat.reduceAdd, Nat.reduceEqDiff, Nat.reduceLeDiff, Nat.zero_add, Nat.le_refl, reduceCtorEq, SV.tr, SV.trL, nmF, rn_nil, rn_cons1, rn_cons2, List.map_cons, List.map_nil, List.all_cons, List.all_nil, plainOb, SV.refsL, SV.refs, Ob.refs, X, F, List.range_succ, List.range_zero, List.nil_append, List.cons_append, List.isEmpty_nil, decide_true, Nat.reduceLT, Bool.and_self, Bool.and_true, and_self, and_true, List.getElem?_cons_zero, List.getElem?_cons_succ, List.nodup_cons, List.nodup_nil, List.mem_cons, List.not_mem_nil, not_false_eq_true, or_false, List.append_nil, mkO, setO_mk, List.mem_singleton]; rfl) ?_ ?_ ?_ ?_ ?_ ?_ ?_ <;> simp [retA, rvA, List.mapM_cons, List.mapM_nil, Option.pure_def, Option.bind_eq_bind, Option.bind_some, Option.map_some, mkE_cons, mk_nil, mkO_cons, mkO_nil, loadA, ↓reduceIte, List.take_succ_cons, List.take_zero, List.drop_zero, List.drop_succ_cons, List.length_cons, List.length_nil, Nat.reduceAdd, Nat.reduceEqDiff, Nat.reduceLeDiff, Nat.zero_add, Nat.le_refl, reduceCtorEq, SV.tr, SV.trL, nmF, rn_nil, rn_cons1, rn_cons2, List.map_cons, List.map_nil, List.all_cons, List.all_nil, plainOb, SV.refsL, SV.refs, Ob.refs, X, F, List.range_succ, List.range_zero, List.nil_append, List.cons_append, List.isEmpty_nil, decide_true, Nat.reduceLT, Bool.and_self, Bool.and_true, and_self, and_true, List.getElem?_cons_zero, List.getElem?_cons_succ, List.nodup_cons, List.nodup_nil, List.mem_cons, List.not_mem_nil, not_false_eq_true, or_false, List.append_nil, mkO, setO_mk, List.mem_singleton]
      · obtain ⟨hs0, hsl, hx0⟩ := opn_nat h2
        obtain ⟨s, rfl⟩ : ∃ q : Nat, s = q := ⟨s.toNat, by omega⟩
        simp only [Int.toNat_natCast] at hsl hx0 ⊢
        have hl5 := (sh_out h1).2.1
        have hokY : okY x m s la = (!(decide (0 ≤ la) && decide (m ≤ x.getD s 0)) && !decide (((plR m s la x).length : Int) ≤ la)) := by
          simp only [okY, h1, h2, dec_t (show -1 ≤ la by omega), Int.toNat_natCast, Bool.true_and]
        have hml := (CS.of h1).le
        refine is.go hm hΓ k_LessPlay o_LessPlay (by simp [a_LessPlay]) ?_
        simp only [a_LessPlay, h_isShort, c_isShort, h_isOpen, c_isOpen, h_newLesser, c_newLesser, h_opened, c_l2Open, h_lbest, c_lbest, h_less, c_less, h_has, c_has, h_answered, c_answered, hc, h1, h2, h3, Bool.false_eq_true, List.zipIdx_cons, List.zipIdx_nil, ↓SP, SQ, Gam.add, stepM, callC, argC, lendO, nmBy, nmC, likeL, likeB, plainOb, offs, exL, X, F, trP, trO, stepD, stepW, newA, SV.tr, SV.trL, fz, allP, Ob.tr, loadA, cellsA, SV.cells, binA, binI, eqOut, isSl, isPt, natOf, callee, snap, SV.refsL, SV.refs, thaw, fzAll, loA, hiA, elemOf, partsA, buildA, putCells, ↓reduceIte, reduceCtorEq, okCell, Nat.reduceAdd, Nat.reduceEqDiff, Nat.reduceSub, Nat.reduceMul, Nat.reduceLeDiff, Nat.reduceLT, Nat.reduceBEq, PV.scal, PV.scalL, SV.scal, SV.scalL, Ob.scal, PV.isCell, pure', resO]
        refine loop_at (fun q : W7 => mkEnv [(0, .p (.agg [.sl 1 (ints x), .int .i64 m])), (1, si s), (2, si la), (3, .bx 3 0), (6, .p .nilsl), (7, sb false), (8, .bx 8 0), (9, .ar 26), (10, .bx 10 0), (11, q.a), (24, sb false), (31, q.b), (53, q.c), (58, q.d), (62, .junk)]) (fun q => mkO [(3, some (.box [.p (.sl 1 (ints x)), si m])), (8, some (.box [.mp 25])), (10, some (.box [.p (.sl 1 (ints q.x)), si m])), (11, q.o), (25, some (.map (entE q.E))), (26, some (.arr 2 (asks q.out))), (56, q.p), (57, none)]) (fun q => isSh q.x m = true ∧ q.x.length = x.length ∧ okLM m x.length q.E ∧ msL m q.x ≤ q.f ∧ plF m s la q.f q.x q.out = plR m s la x ∧ q.out.length + q.f ≤ 10 ∧ 0 ≤ q.x.getD s 0 ∧ ((la < 0 ∨ (q.out.length : Int) ≤ la) → q.x.getD s 0 = x.getD s 0) ∧ ((0 ≤ la ∧ m ≤ x.getD s 0) → (q.out.length : Int) ≤ la)) (fun q => q.f) ⟨x, [], [], msL m x, .junk, .junk, .junk, .junk, none, none⟩ ⟨h1, rfl, okLM_nil m _, Nat.le_refl _, rfl, by simp only [List.length_nil]; omega, hx0, fun _ => rfl, fun g => by simp only [List.length_nil]; omega⟩ rfl rfl ?_
        rintro ⟨z, out, E, f, c1, c2, c3, c4, o1, o2⟩ ⟨hz, hzl, hok, hms, hpl, hof, hz0, hzs, hbad⟩ R hR hN
        simp only at hz hzl hok hms hpl hof hz0 hzs hbad
        have hzsl : s < z.length := by omega
        by_cases ho : (opens z).length < 2
        · have ho2 : ¬ ((opens z).length : Int) > 1 := by omega
          have hfe : out = plR m s la x := by rw [← hpl, plF_done ho]
          simp only [hc, hzl, ho2, h_opened, c_l2Open, isI_ints, ofI_ints, ints_len, ↓SP, SQ, Gam.add, stepM, callC, argC, lendO, nmBy, nmC, likeL, likeB, plainOb, offs, exL, X, F, trP, trO, stepD, stepW, newA, SV.tr, SV.trL, fz, allP, Ob.tr, loadA, cellsA, SV.cells, binA, binI, eqOut, isSl, isPt, natOf, callee, snap, SV.refsL, SV.refs, thaw, fzAll, loA, hiA, elemOf, partsA, buildA, putCells, ↓reduceIte, reduceCtorEq, okCell, Nat.reduceAdd, Nat.reduceEqDiff, Nat.reduceSub, Nat.reduceMul, Nat.reduceLeDiff, Nat.reduceLT, Nat.reduceBEq, PV.scal, PV.scalL, SV.scal, SV.scalL, Ob.scal, PV.isCell, pure', resO]
          refine hR _ _ _ (by intro h; cases h) ?_
          by_cases hge : la ≥ (out.length : Int)
          · have hp : okY x m s la = false := by rw [hokY, ← hfe, dec_t (show (out.length : Int) ≤ la from hge)]; simp
            rw [hp]
            simp only [hge, asks_len, Bool.false_eq_true, ↓SP, SQ, Gam.add, stepM, callC, argC, lendO, nmBy, nmC, likeL, likeB, plainOb, offs, exL, X, F, trP, trO, stepD, stepW, newA, SV.tr, SV.trL, fz, allP, Ob.tr, loadA, cellsA, SV.cells, binA, binI, eqOut, isSl, isPt, natOf, callee, snap, SV.refsL, SV.refs, thaw, fzAll, loA, hiA, elemOf, partsA, buildA, putCells, ↓reduceIte, reduceCtorEq, okCell, Nat.reduceAdd, Nat.reduceEqDiff, Nat.reduceSub, Nat.reduceMul, Nat.reduceLeDiff, Nat.reduceLT, Nat.reduceBEq, PV.scal, PV.scalL, SV.scal, SV.scalL, Ob.scal, PV.isCell, pure', resO]
            refine finA_gen [] trivial (by simp [retA, rvA, List.mapM_cons, List.mapM_nil, Option.pure_def, Option.bind_eq_bind, Option.bind_some, Option.map_some, mkE_cons, mk_nil, mkO_cons, mkO_nil, loadA, ↓reduceIte, List.take_succ_cons, List.take_zero, List.drop_zero, List.drop_succ_cons, List.length_cons, List.length_nil, Nat.reduceAdd, Nat.reduceEqDiff, Nat.reduceLeDiff, Nat.zero_add, Nat.le_refl, reduceCtorEq, SV.tr, SV.trL, nmF, rn_nil, rn_cons1, rn_cons2, List.map_cons, List.map_nil, List.all_cons, List.all_nil, plainOb, SV.refsL, SV.refs, Ob.refs, X, F, List.range_succ, List.range_zero, List.nil_append, List.cons_append, List.isEmpty_nil, decide_true, Nat.reduceLT, Bool.and_self, Bool.and_true, and_self, and_true, List.getElem?_cons_zero, List.getElem?_cons_succ, List.nodup_cons, List.nodup_nil, List.mem_cons, List.not_mem_nil, not_false_eq_true, or_false, List.append_nil, mkO, setO_mk, List.mem_singleton]; rfl) ?_ ?_ ?_ ?_ ?_ ?_ ?_ <;> simp [retA, rvA, List.mapM_cons, List.mapM_nil, Option.pure_def, Option.bind_eq_bind, Option.bind_some, Option.map_some, mkE_cons, mk_nil, mkO_cons, mkO_nil, loadA, ↓reduceIte, List.take_succ_cons, List.take_zero, List.drop_zero, List.drop_succ_cons, List.length_cons, List.length_nil, Nat.reduceAdd, Nat.reduceEqDiff, Nat.reduceLeDiff, Nat.zero_add, Nat.le_refl, reduceCtorEq, SV.tr, SV.trL, nmF, rn_nil, rn_cons1, rn_cons2, List.map_cons, List.map_nil, List.all_cons, List.all_nil, plainOb, SV.refsL, SV.refs, Ob.refs, X, F, List.range_succ, List.range_zero, List.nil_append, List.cons_append, List.isEmpty_nil, decide_true, Nat.reduceLT, Bool.and_self, Bool.and_true, and_self, and_true, List.getElem?_cons_zero, List.getElem?_cons_succ, List.nodup_cons, List.nodup_nil, List.mem_cons, List.not_mem_nil, not_false_eq_true, or_false, List.append_nil, mkO, setO_mk, List.mem_singleton]
          · have hp : okY x m s la = true := by
              rw [hokY, ← hfe, dec_f (show ¬ (out.length : Int) ≤ la by omega)]
              by_cases hb : 0 ≤ la ∧ m ≤ x.getD s 0
              · have := hbad hb; omega
              · simp only [Bool.not_false, Bool.and_true, Bool.not_eq_true', Bool.and_eq_false_iff, decide_eq_false_iff_not]
                by_cases hb1 : 0 ≤ la
                · exact .inr fun g => hb ⟨hb1, g⟩
                · exact .inl hb1
            rw [hp]
            simp only [hge, asks_len, ↓SP, SQ, Gam.add, stepM, callC, argC, lendO, nmBy, nmC, likeL, likeB, plainOb, offs, exL, X, F, trP, trO, stepD, stepW, newA, SV.tr, SV.trL, fz, allP, Ob.tr, loadA, cellsA, SV.cells, binA, binI, eqOut, isSl, isPt, natOf, callee, snap, SV.refsL, SV.refs, thaw, fzAll, loA, hiA, elemOf, partsA, buildA, putCells, ↓reduceIte, reduceCtorEq, okCell, Nat.reduceAdd, Nat.reduceEqDiff, Nat.reduceSub, Nat.reduceMul, Nat.reduceLeDiff, Nat.reduceLT, Nat.reduceBEq, PV.scal, PV.scalL, SV.scal, SV.scalL, Ob.scal, PV.isCell, pure', resO]
            refine finA_gen [26] trivial (by simp [retA, rvA, List.mapM_cons, List.mapM_nil, Option.pure_def, Option.bind_eq_bind, Option.bind_some, Option.map_some, mkE_cons, mk_nil, mkO_cons, mkO_nil, loadA, ↓reduceIte, List.take_succ_cons, List.take_zero, List.drop_zero, List.drop_succ_cons, List.length_cons, List.length_nil, Nat.reduceAdd, Nat.reduceEqDiff, Nat.reduceLeDiff, Nat.zero_add, Nat.le_refl, reduceCtorEq, SV.tr, SV.trL, nmF, rn_nil, rn_cons1, rn_cons2, List.map_cons, List.map_nil, List.all_cons, List.all_nil, plainOb, SV.refsL, SV.refs, Ob.refs, X, F, List.range_succ, List.range_zero, List.nil_append, List.cons_append, List.isEmpty_nil, decide_true, Nat.reduceLT, Bool.and_self, Bool.and_true, and_self, and_true, List.getElem?_cons_zero, List.getElem?_cons_succ, List.nodup_cons, List.nodup_nil, List.mem_cons, List.not_mem_nil, not_false_eq_true, or_false, List.append_nil, mkO, setO_mk, List.mem_singleton]; rfl) ?_ ?_ ?_ ?_ ?_ ?_ ?_ <;> simp [hfe, retA, rvA, List.mapM_cons, List.mapM_nil, Option.pure_def, Option.bind_eq_bind, Option.bind_some, Option.map_some, mkE_cons, mk_nil, mkO_cons, mkO_nil, loadA, ↓reduceIte, List.take_succ_cons, List.take_zero, List.drop_zero, List.drop_succ_cons, List.length_cons, List.length_nil, Nat.reduceAdd, Nat.reduceEqDiff, Nat.reduceLeDiff, Nat.zero_add, Nat.le_refl, reduceCtorEq, SV.tr, SV.trL, nmF, rn_nil, rn_cons1, rn_cons2, List.map_cons, List.map_nil, List.all_cons, List.all_nil, plainOb, SV.refsL, SV.refs, Ob.refs, X, F, List.range_succ, List.range_zero, List.nil_append, List.cons_append, List.isEmpty_nil, decide_true, Nat.reduceLT, Bool.and_self, Bool.and_true, and_self, and_true, List.getElem?_cons_zero, List.getElem?_cons_succ, List.nodup_cons, List.nodup_nil, List.mem_cons, List.not_mem_nil, not_false_eq_true, or_false, List.append_nil, mkO, setO_mk, List.mem_singleton]
        · have ho2 : ((opens z).length : Int) > 1 := by omega
          obtain ⟨k1, k2, _⟩ := kbT_bd hz ho
          have hok' : okLM m z.length E := by rw [hzl]; exact hok
          have hokb := beE_good hz hok' (kbT m z) k2
          rw [hzl] at hokb
          have h05 : (0 : Int) ≤ (kbT m z : Int) ∧ (kbT m z : Int) ≤ 5 := by omega
          have h1000 := sh_1000 hz
          have hlen := sh_len hz
          have T := PS.of (la := la) (n := out.length) hz ho hzsl hz0
          have hbit := bit_ls (kbT m z) (by omega) s (by omega)
          have hyy : (decide (s < kbT m z) == ((out.length : Int) == la)) = !yP m s la z out.length := by
            simp only [yP]
            by_cases e : (out.length : Int) = la
            · rw [dec_t e, beq_iff_eq.2 e]; cases decide (s < kbT m z) <;> rfl
            · rw [dec_f e, beq_eq_false_iff_ne.2 e]; cases decide (s < kbT m z) <;> rfl
          have hal := aft_ls (k := kbT m z) (by omega) (m := m) (y := yP m s la z out.length) (sh_out hz).2.1
          have hs0' : (0 : Int) ≤ (s : Int) := by omega
          have hopn := opn_eq (x := aftL m (kbT m z) (yP m s la z out.length) z) (s := s) (by rw [aftL_len]; exact hzsl)
          have hms2 := T.ms
          have hat := T.at'
          cases f with
          | zero => omega
          | succ f =>
            rw [plF, if_neg ho] at hpl
            have hr : out.length + 1 ≤ roomA := by unfold roomA; omega
            by_cases hcl : 0 ≤ (aftL m (kbT m z) (yP m s la z out.length) z).getD s 0
            · have hop : opn (aftL m (kbT m z) (yP m s la z out.length) z) (s : Int) = true := by rw [hopn]; exact dec_t hcl
              have hInv : isSh (aftL m (kbT m z) (yP m s la z out.length) z) m = true ∧ (aftL m (kbT m z) (yP m s la z out.length) z).length = x.length ∧ okLM m x.length (beE m z E (kbT m z)) ∧ msL m (aftL m (kbT m z) (yP m s la z out.length) z) ≤ f ∧ plF m s la f (aftL m (kbT m z) (yP m s la z out.length) z) (out ++ [(lsQ (kbT m z), yP m s la z out.length)]) = plR m s la x ∧ (out ++ [(lsQ (kbT m z), yP m s la z out.length)]).length + f ≤ 10 ∧ 0 ≤ (aftL m (kbT m z) (yP m s la z out.length) z).getD s 0 ∧ ((la < 0 ∨ ((out ++ [(lsQ (kbT m z), yP m s la z out.length)]).length : Int) ≤ la) → (aftL m (kbT m z) (yP m s la z out.length) z).getD s 0 = x.getD s 0) ∧ ((0 ≤ la ∧ m ≤ x.getD s 0) → ((out ++ [(lsQ (kbT m z), yP m s la z out.length)]).length : Int) ≤ la) := by
                have hl1 : (out ++ [(lsQ (kbT m z), yP m s la z out.length)]).length = out.length + 1 := by simp
                rw [hl1]
                refine ⟨T.sh, by rw [aftL_len, hzl], hokb, by omega, hpl, by omega, hcl, fun g => ?_, fun g => ?_⟩
                · rw [hat, if_neg (by omega)]
                  exact hzs (by omega)
                · have h5 := hbad g
                  by_cases e : (out.length : Int) = la
                  · exfalso
                    rw [hat, if_pos e, if_pos (by have := hzs (.inr (by omega)); omega)] at hcl
                    omega
                  · omega
              rcases o1 with _ | o1
              · simp only [hc, hz, hzl, ho, ho2, hok, h05, h1000, hlen, hal, hbit, hyy, hs0', hop, hr, h_opened, c_l2Open, h_lbest, c_lbest, h_less, c_less, h_has, c_has, h_answered, c_answered, h_isOpen, c_isOpen, isES_ent, ofES_ent, Int.toNat_natCast, aftL_len, asks_len, asks_app1, asks_cell, ints_len, isI_ints, ofI_ints, not_false_eq_true, Bool.not_not, Bool.not_true, Bool.false_eq_true, ↓SP, SQ, Gam.add, stepM, callC, argC, lendO, nmBy, nmC, likeL, likeB, plainOb, offs, exL, X, F, trP, trO, stepD, stepW, newA, SV.tr, SV.trL, fz, allP, Ob.tr, loadA, cellsA, SV.cells, binA, binI, eqOut, isSl, isPt, natOf, callee, snap, SV.refsL, SV.refs, thaw, fzAll, loA, hiA, elemOf, partsA, buildA, putCells, ↓reduceIte, reduceCtorEq, okCell, Nat.reduceAdd, Nat.reduceEqDiff, Nat.reduceSub, Nat.reduceMul, Nat.reduceLeDiff, Nat.reduceLT, Nat.reduceBEq, PV.scal, PV.scalL, SV.scal, SV.scalL, Ob.scal, PV.isCell, pure', resO]
                exact hN ⟨_, _, _, f, _, _, _, _, _, _⟩ _ _ hInv (by simp only; omega) rfl rfl
              · simp only [hc, hz, hzl, ho, ho2, hok, h05, h1000, hlen, hal, hbit, hyy, hs0', hop, hr, h_opened, c_l2Open, h_lbest, c_lbest, h_less, c_less, h_has, c_has, h_answered, c_answered, h_isOpen, c_isOpen, isES_ent, ofES_ent, Int.toNat_natCast, aftL_len, asks_len, asks_app1, asks_cell, ints_len, isI_ints, ofI_ints, not_false_eq_true, Bool.not_not, Bool.not_true, Bool.false_eq_true, ↓SP, SQ, Gam.add, stepM, callC, argC, lendO, nmBy, nmC, likeL, likeB, plainOb, offs, exL, X, F, trP, trO, stepD, stepW, newA, SV.tr, SV.trL, fz, allP, Ob.tr, loadA, cellsA, SV.cells, binA, binI, eqOut, isSl, isPt, natOf, callee, snap, SV.refsL, SV.refs, thaw, fzAll, loA, hiA, elemOf, partsA, buildA, putCells, ↓reduceIte, reduceCtorEq, okCell, Nat.reduceAdd, Nat.reduceEqDiff, Nat.reduceSub, Nat.reduceMul, Nat.reduceLeDiff, Nat.reduceLT, Nat.reduceBEq, PV.scal, PV.scalL, SV.scal, SV.scalL, Ob.scal, PV.isCell, pure', resO]
                exact hN ⟨_, _, _, f, _, _, _, _, _, _⟩ _ _ hInv (by simp only; omega) rfl rfl
            · have hop : opn (aftL m (kbT m z) (yP m s la z out.length) z) (s : Int) = false := by rw [hopn]; exact dec_f hcl
              have hp : okY x m s la = false := by
                rw [hokY]
                rw [hat] at hcl
                by_cases e : (out.length : Int) = la
                · have h5 := hzs (.inr (by omega))
                  rw [if_pos e] at hcl
                  have hb2 : m ≤ x.getD s 0 := by
                    split at hcl <;> omega
                  rw [dec_t (show 0 ≤ la by omega), dec_t hb2]; rfl
                · rw [if_neg e] at hcl; omega
              rcases o1 with _ | o1
              · simp only [hc, hz, hzl, ho, ho2, hok, h05, h1000, hlen, hal, hbit, hyy, hs0', hop, hr, h_opened, c_l2Open, h_lbest, c_lbest, h_less, c_less, h_has, c_has, h_answered, c_answered, h_isOpen, c_isOpen, isES_ent, ofES_ent, Int.toNat_natCast, aftL_len, asks_len, asks_app1, asks_cell, ints_len, isI_ints, ofI_ints, not_false_eq_true, Bool.not_not, Bool.not_false, Bool.false_eq_true, ↓SP, SQ, Gam.add, stepM, callC, argC, lendO, nmBy, nmC, likeL, likeB, plainOb, offs, exL, X, F, trP, trO, stepD, stepW, newA, SV.tr, SV.trL, fz, allP, Ob.tr, loadA, cellsA, SV.cells, binA, binI, eqOut, isSl, isPt, natOf, callee, snap, SV.refsL, SV.refs, thaw, fzAll, loA, hiA, elemOf, partsA, buildA, putCells, ↓reduceIte, reduceCtorEq, okCell, Nat.reduceAdd, Nat.reduceEqDiff, Nat.reduceSub, Nat.reduceMul, Nat.reduceLeDiff, Nat.reduceLT, Nat.reduceBEq, PV.scal, PV.scalL, SV.scal, SV.scalL, Ob.scal, PV.isCell, pure', resO]
                refine hR _ _ _ (by intro h; cases h) ?_
                simp only [hp, Bool.false_eq_true, if_false]
                refine finA_gen [] trivial (by simp [retA, rvA, List.mapM_cons, List.mapM_nil, Option.pure_def, Option.bind_eq_bind, Option.bind_some, Option.map_some, mkE_cons, mk_nil, mkO_cons, mkO_nil, loadA, ↓reduceIte, List.take_succ_cons, List.take_zero, List.drop_zero, List.drop_succ_cons, List.length_cons, List.length_nil, Nat.reduceAdd, Nat.reduceEqDiff, Nat.reduceLeDiff, Nat.zero_add, Nat.le_refl, reduceCtorEq, SV.tr, SV.trL, nmF, rn_nil, rn_cons1, rn_cons2, List.map_cons, List.map_nil, List.all_cons, List.all_nil, plainOb, SV.refsL, SV.refs, Ob.refs, X, F, List.range_succ, List.range_zero, List.nil_append, List.cons_append, List.isEmpty_nil, decide_true, Nat.reduceLT, Bool.and_self, Bool.and_true, and_self, and_true, List.getElem?_cons_zero, List.getElem?_cons_succ, List.nodup_cons, List.nodup_nil, List.mem_cons, List.not_mem_nil, not_false_eq_true, or_false, List.append_nil, mkO, setO_mk, List.mem_singleton]; rfl) ?_ ?_ ?_ ?_ ?_ ?_ ?_ <;> simp [retA, rvA, List.mapM_cons, List.mapM_nil, Option.pure_def, Option.bind_eq_bind, Option.bind_some, Option.map_some, mkE_cons, mk_nil, mkO_cons, mkO_nil, loadA, ↓reduceIte, List.take_succ_cons, List.take_zero, List.drop_zero, List.drop_succ_cons, List.length_cons, List.length_nil, Nat.reduceAdd, Nat.reduceEqDiff, Nat.reduceLeDiff, Nat.zero_add, Nat.le_refl, reduceCtorEq, SV.tr, SV.trL, nmF, rn_nil, rn_cons1, rn_cons2, List.map_cons, List.map_nil, List.all_cons, List.all_nil, plainOb, SV.refsL, SV.refs, Ob.refs, X, F, List.range_succ, List.range_zero, List.nil_append, List.cons_append, List.isEmpty_nil, decide_true, Nat.reduceLT, Bool.and_self, Bool.and_true, and_self, and_true, List.getElem?_cons_zero, List.getElem?_cons_succ, List.nodup_cons, List.nodup_nil, List.mem_cons, List.not_mem_nil, not_false_eq_true, or_false, List.append_nil, mkO, setO_mk, List.mem_singleton]
              · simp only [hc, hz, hzl, ho, ho2, hok, h05, h1000, hlen, hal, hbit, hyy, hs0', hop, hr, h_opened, c_l2Open, h_lbest, c_lbest, h_less, c_less, h_has, c_has, h_answered, c_answered, h_isOpen, c_isOpen, isES_ent, ofES_ent, Int.toNat_natCast, aftL_len, asks_len, asks_app1, asks_cell, ints_len, isI_ints, ofI_ints, not_false_eq_true, Bool.not_not, Bool.not_false, Bool.false_eq_true, ↓SP, SQ, Gam.add, stepM, callC, argC, lendO, nmBy, nmC, likeL, likeB, plainOb, offs, exL, X, F, trP, trO, stepD, stepW, newA, SV.tr, SV.trL, fz, allP, Ob.tr, loadA, cellsA, SV.cells, binA, binI, eqOut, isSl, isPt, natOf, callee, snap, SV.refsL, SV.refs, thaw, fzAll, loA, hiA, elemOf, partsA, buildA, putCells, ↓reduceIte, reduceCtorEq, okCell, Nat.reduceAdd, Nat.reduceEqDiff, Nat.reduceSub, Nat.reduceMul, Nat.reduceLeDiff, Nat.reduceLT, Nat.reduceBEq, PV.scal, PV.scalL, SV.scal, SV.scalL, Ob.scal, PV.isCell, pure', resO]
                refine hR _ _ _ (by intro h; cases h) ?_
                simp only [hp, Bool.false_eq_true, if_false]
                refine finA_gen [] trivial (by simp [retA, rvA, List.mapM_cons, List.mapM_nil, Option.pure_def, Option.bind_eq_bind, Option.bind_some, Option.map_some, mkE_cons, mk_nil, mkO_cons, mkO_nil, loadA, ↓reduceIte, List.take_succ_cons, List.take_zero, List.drop_zero, List.drop_succ_cons, List.length_cons, List.length_nil, Nat.reduceAdd, Nat.reduceEqDiff, Nat.reduceLeDiff, Nat.zero_add, Nat.le_refl, reduceCtorEq, SV.tr, SV.trL, nmF, rn_nil, rn_cons1, rn_cons2, List.map_cons, List.map_nil, List.all_cons, List.all_nil, plainOb, SV.refsL, SV.refs, Ob.refs, X, F, List.range_succ, List.range_zero, List.nil_append, List.cons_append, List.isEmpty_nil, decide_true, Nat.reduceLT, Bool.and_self, Bool.and_true, and_self, and_true, List.getElem?_cons_zero, List.getElem?_cons_succ, List.nodup_cons, List.nodup_nil, List.mem_cons, List.not_mem_nil, not_false_eq_true, or_false, List.append_nil, mkO, setO_mk, List.mem_singleton]; rfl) ?_ ?_ ?_ ?_ ?_ ?_ ?_ <;> simp [retA, rvA, List.mapM_cons, List.mapM_nil, Option.pure_def, Option.bind_eq_bind, Option.bind_some, Option.map_some, mkE_cons, mk_nil, mkO_cons, mkO_nil, loadA, ↓reduceIte, List.take_succ_cons, List.take_zero, List.drop_zero, List.drop_succ_cons, List.length_cons, List.length_nil, Nat.reduceAdd, Nat.reduceEqDiff, Nat.reduceLeDiff, Nat.zero_add, Nat.le_refl, reduceCtorEq, SV.tr, SV.trL, nmF, rn_nil, rn_cons1, rn_cons2, List.map_cons, List.map_nil, List.all_cons, List.all_nil, plainOb, SV.refsL, SV.refs, Ob.refs, X, F, List.range_succ, List.range_zero, List.nil_append, List.cons_append, List.isEmpty_nil, decide_true, Nat.reduceLT, Bool.and_self, Bool.and_true, and_self, and_true, List.getElem?_cons_zero, List.getElem?_cons_succ, List.nodup_cons, List.nodup_nil, List.mem_cons, List.not_mem_nil, not_false_eq_true, or_false, List.append_nil, mkO, setO_mk, List.mem_singleton]
end Go.Proofs.Ytgnclbdhpdjafaa.Pam
