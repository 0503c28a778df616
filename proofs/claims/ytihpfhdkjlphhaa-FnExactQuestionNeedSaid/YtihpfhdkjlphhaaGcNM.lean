/- A part of the proof that stands in this folder: a small machine whose steps are shown to be the steps of the model, or walks of functions by it. No condition of its own. -/
import Derived.Test.YtihpfhdkjlphhaaGcMP
set_option linter.unusedVariables false
set_option linter.unusedSimpArgs false
namespace Go.Proofs.Ytihpfhdkjlphhaa.Pam
open Go
def cntP (p : Nat → Bool) (m : Int) (x : List Int) (i : Nat) : List Int := (List.range (m + 1).toNat).map fun j : Nat => (((List.range i).filter fun k => p k && decide (x.getD k 0 = (j : Int))).length : Int)
theorem cntP_len (p : Nat → Bool) (m : Int) (x : List Int) (i : Nat) : (cntP p m x i).length = (m + 1).toNat := by simp [cntP]
theorem cntP_0 (p : Nat → Bool) (m : Int) (x : List Int) : List.replicate (m + 1).toNat (0 : Int) = cntP p m x 0 := by
  apply List.ext_getElem
  · simp [cntP]
  · intro i h1 h2; simp [cntP]
theorem cntP_get {p : Nat → Bool} {m : Int} {x : List Int} {i j : Nat} (h : j < (m + 1).toNat) : (cntP p m x i).getD j 0 = (((List.range i).filter fun k => p k && decide (x.getD k 0 = (j : Int))).length : Int) := by
  rw [getD_lt (by rw [cntP_len]; exact h)]; simp [cntP]
theorem cntP_bd {p : Nat → Bool} {m : Int} {x : List Int} {i j : Nat} : 0 ≤ (cntP p m x i).getD j 0 ∧ (cntP p m x i).getD j 0 ≤ i := by
  by_cases h : j < (m + 1).toNat
  · rw [cntP_get h]
    have := List.length_filter_le (fun k => p k && decide (x.getD k 0 = (j : Int))) (List.range i)
    rw [List.length_range] at this
    omega
  · rw [List.getD_eq_getElem?_getD, List.getElem?_eq_none (by rw [cntP_len]; omega)]; simp
theorem cntP_hit {p : Nat → Bool} {m : Int} {x : List Int} {i : Nat} (hp : p i = true) (h0 : 0 ≤ x.getD i 0) (hm : x.getD i 0 ≤ m) : (cntP p m x i).set (x.getD i 0).toNat ((cntP p m x i).getD (x.getD i 0).toNat 0 + 1) = cntP p m x (i + 1) := by
  rw [cntP_get (by omega), cntP, range_set, cntP]
  apply List.map_congr_left
  intro j _
  rw [List.range_succ, List.filter_append]
  by_cases h : j = (x.getD i 0).toNat
  · have e : x.getD i 0 = (j : Int) := by omega
    rw [if_pos h, ← h]
    simp only [List.filter_cons, hp, dec_t e, Bool.and_self, List.filter_nil, if_true, List.length_append, List.length_cons, List.length_nil]
    omega
  · have e : ¬ x.getD i 0 = (j : Int) := by omega
    rw [if_neg h]
    simp only [List.filter_cons, dec_f e, Bool.and_false, List.filter_nil, Bool.false_eq_true, if_false, List.append_nil]
theorem cntP_miss {p : Nat → Bool} {m : Int} {x : List Int} {i : Nat} (h : p i = false ∨ ¬ 0 ≤ x.getD i 0) : cntP p m x (i + 1) = cntP p m x i := by
  rw [cntP, cntP]
  apply List.map_congr_left
  intro j _
  rw [List.range_succ, List.filter_append]
  have : (p i && decide (x.getD i 0 = (j : Int))) = false := by
    rcases h with h | h
    · rw [h]; rfl
    · rw [dec_f (show ¬ x.getD i 0 = (j : Int) by omega), Bool.and_false]
  simp only [List.filter_cons, this, List.filter_nil, Bool.false_eq_true, if_false, List.append_nil]
theorem sum_set {l : List Int} {q : Nat} (h : q < l.length) : (l.set q (l.getD q 0 + 1)).sum = l.sum + 1 := by
  induction l generalizing q with
  | nil => simp at h
  | cons a r ih =>
    cases q with
    | zero => simp; omega
    | succ q =>
      have := ih (q := q) (by simpa using h)
      simp only [List.set_cons_succ, List.getD_cons_succ, List.sum_cons] at this ⊢
      omega
theorem cnt_sum {m : Int} {x : List Int} (hx : ∀ k, k < x.length → x.getD k 0 ≤ m) (hm : 0 ≤ m) : ∀ i, i ≤ x.length → (cntP (fun _ => true) m x i).sum = ((opensI x i).length : Int)
  | 0, _ => by rw [← cntP_0]; simp [opensI]
  | i + 1, h => by
    have ih := cnt_sum hx hm i (by omega)
    by_cases h0 : 0 ≤ x.getD i 0
    · have hxi := hx i (by omega)
      rw [← cntP_hit (p := fun _ => true) rfl h0 hxi, sum_set (by rw [cntP_len]; omega), ih, ← opensI_yes x i h0]
      simp
    · rw [cntP_miss (.inr h0), ih, opensI_no x i h0]
def cntL (m : Int) (x : List Int) : List Int := cntP (fun _ => true) m x x.length
def spQ (m : Int) (x : List Int) (q : Int) : List Int := cntP (fun k => bitW q (k : Int) == 1) m x x.length
theorem st_out {x : List Int} {m : Int} (h : isSt x m = true) : (1 ≤ x.length ∧ x.length ≤ 12) ∧ (0 ≤ m ∧ m ≤ 2) ∧ ∀ k, k < x.length → -1 ≤ x.getD k 0 ∧ x.getD k 0 ≤ m := by
  simp only [isSt, Bool.and_eq_true, decide_eq_true_eq, List.all_eq_true] at h
  refine ⟨by omega, h.1.2, fun k hk => h.2 _ (by rw [getD_lt hk]; exact List.getElem_mem hk)⟩
theorem mem_le_sum {l : List Int} (h : ∀ v ∈ l, 0 ≤ v) : 0 ≤ l.sum ∧ ∀ v ∈ l, v ≤ l.sum := by
  induction l with
  | nil => simp
  | cons a r ih =>
    obtain ⟨h1, h2⟩ := ih fun v hv => h v (by simp [hv])
    have ha := h a (by simp)
    simp only [List.sum_cons]
    refine ⟨by omega, fun v hv => ?_⟩
    rcases List.mem_cons.1 hv with e | hv
    · omega
    · have := h2 v hv; omega
theorem cnt_okC {x : List Int} {m : Int} (h : isSt x m = true) (ho : (opens x).length ≤ 8) : okC (cntL m x) = true ∧ (cntL m x).sum = ((opens x).length : Int) ∧ (cntL m x).length = (m + 1).toNat := by
  obtain ⟨hl, hm, hx⟩ := st_out h
  have hs : (cntL m x).sum = ((opens x).length : Int) := cnt_sum (fun k hk => (hx k hk).2) hm.1 x.length (Nat.le_refl _)
  have hlen : (cntL m x).length = (m + 1).toNat := cntP_len ..
  refine ⟨?_, hs, hlen⟩
  have hnn : ∀ v ∈ cntL m x, 0 ≤ v := fun v hv => by
    simp only [cntL, cntP, List.mem_map] at hv
    obtain ⟨j, _, rfl⟩ := hv
    omega
  have hb := (mem_le_sum hnn).2
  simp only [okC, hlen, hs, Bool.and_eq_true, decide_eq_true_eq, in8, List.all_eq_true]
  refine ⟨⟨⟨by omega, by omega⟩, fun v hv => ?_⟩, by omega⟩
  have := hb v hv
  have := hnn v hv
  omega
theorem sp_ok {x : List Int} {m : Int} (q : Int) : okSp (cntL m x) (spQ m x q) = true := by
  have e1 : (spQ m x q).length = (m + 1).toNat := cntP_len ..
  have e2 : (cntL m x).length = (m + 1).toNat := cntP_len ..
  simp only [okSp, e1, e2, Bool.and_eq_true, decide_eq_true_eq, List.all_eq_true, List.mem_range, true_and]
  intro j hj
  have b := cntP_bd (p := fun k => bitW q (k : Int) == 1) (m := m) (x := x) (i := x.length) (j := j)
  refine ⟨b.1, ?_⟩
  rw [spQ, cntL, cntP_get hj, cntP_get hj]
  have : ((List.range x.length).filter fun k : Nat => (bitW q (k : Int) == 1) && decide (x.getD k 0 = (j : Int))).length ≤ ((List.range x.length).filter fun k : Nat => true && decide (x.getD k 0 = (j : Int))).length := by
    have hsub : ((List.range x.length).filter fun k : Nat => (bitW q (k : Int) == 1) && decide (x.getD k 0 = (j : Int))) = ((List.range x.length).filter fun k : Nat => true && decide (x.getD k 0 = (j : Int))).filter fun k : Nat => bitW q (k : Int) == 1 := by
      rw [List.filter_filter]
      apply List.filter_congr
      intro k _
      simp
    rw [hsub]
    exact List.length_filter_le _ _
  omega
def a_countsS : AFn := ⟨1, 
  .seq (.reg [⟨some 1, none, .w (.box 2 (.t 0))⟩,
    ⟨some 2, none, .d (.mv (.c (.nilsl)))⟩])
  (.seq (.reg [⟨some 6, none, .d (.fa 1 (.t 1))⟩,
    ⟨some 7, none, .d (.load false 1 (.t 6))⟩,
    ⟨some 8, none, .d (.bin .arith .add (.t 7) (.c (.int .i64 1)))⟩,
    ⟨some 9, none, .w (.mkslice 1 (.int .i64 0) (.t 8))⟩,
    ⟨some 3, none, .d (.mv (.t 9))⟩])
  (.seq (.seq (.reg [⟨some 10, none, .d (.fa 0 (.t 1))⟩,
    ⟨some 11, none, .d (.load false 1 (.t 10))⟩,
    ⟨some 12, none, .d (.len (.t 11))⟩,
    ⟨some 13, none, .d (.mv (.c (.int .i64 0)))⟩])
  (.block 0 (.loop (.seq (.reg [⟨some 14, none, .d (.bin .arith .lss (.t 13) (.t 12))⟩])
    (.seq (.cond (.t 14) (.skip) (.exit 0))
    (.seq (.block 1 (.seq (.reg [⟨some 15, none, .d (.ia 1 (.t 11) (.t 13))⟩,
       ⟨some 16, none, .d (.load false 1 (.t 15))⟩,
       ⟨some 5, none, .d (.mv (.t 16))⟩])
     (.seq (.reg [⟨some 17, none, .d (.mv (.t 5))⟩,
       ⟨some 18, none, .d (.bin .arith .geq (.t 17) (.c (.int .i64 0)))⟩])
     (.cond (.t 18) (.reg [⟨some 19, none, .d (.mv (.t 3))⟩,
        ⟨some 20, none, .d (.mv (.t 5))⟩,
        ⟨some 21, none, .d (.ia 1 (.t 19) (.t 20))⟩,
        ⟨some 22, none, .d (.load false 1 (.t 21))⟩,
        ⟨some 23, none, .d (.bin .arith .add (.t 22) (.c (.int .i64 1)))⟩,
        ⟨some 24, none, .d (.ia 1 (.t 19) (.t 20))⟩,
        ⟨none, none, .w (.store 1 (.t 24) (.t 23))⟩]) (.skip)))))
    (.reg [⟨some 25, none, .d (.bin .arith .add (.t 13) (.c (.int .i64 1)))⟩,
      ⟨some 13, none, .d (.mv (.t 25))⟩])))))))
  (.seq (.reg [⟨some 26, none, .d (.mv (.t 3))⟩,
    ⟨some 2, none, .d (.mv (.t 26))⟩])
  (.ret)))), [.tmp 2]⟩
def n_countsS : Nat → Option Ann := fun _ => none
abbrev k_countsS : List Nat := [0, 1, 2, 3, 5, 11, 12, 13, 14, 18]
abbrev o_countsS : List Nat := [1, 9]
def a_l2Counts : AFn := ⟨1, 
  .seq (.reg [⟨some 1, none, .w (.box 2 (.t 0))⟩,
    ⟨some 2, none, .d (.mv (.c (.nilsl)))⟩])
  (.seq (.reg [⟨some 5, none, .d (.fa 1 (.t 1))⟩,
    ⟨some 6, none, .d (.load false 1 (.t 5))⟩,
    ⟨some 7, none, .d (.bin .arith .add (.t 6) (.c (.int .i64 1)))⟩,
    ⟨some 8, none, .w (.mkslice 1 (.int .i64 0) (.t 7))⟩,
    ⟨some 3, none, .d (.mv (.t 8))⟩])
  (.seq (.seq (.reg [⟨some 4, none, .d (.mv (.c (.int .i64 0)))⟩])
  (.block 0 (.loop (.seq (.seq (.reg [⟨some 9, none, .d (.mv (.t 4))⟩,
      ⟨some 10, none, .d (.fa 0 (.t 1))⟩,
      ⟨some 11, none, .d (.load false 1 (.t 10))⟩,
      ⟨some 12, none, .d (.len (.t 11))⟩,
      ⟨some 13, none, .d (.bin .arith .lss (.t 9) (.t 12))⟩])
    (.cond (.t 13) (.skip) (.exit 0)))
    (.seq (.block 1 (.seq (.reg [⟨some 16, none, .d (.fa 0 (.t 1))⟩,
       ⟨some 17, none, .d (.load false 1 (.t 16))⟩,
       ⟨some 18, none, .d (.mv (.t 4))⟩,
       ⟨some 19, none, .d (.ia 1 (.t 17) (.t 18))⟩,
       ⟨some 20, none, .d (.load false 1 (.t 19))⟩,
       ⟨some 21, none, .d (.bin .arith .geq (.t 20) (.c (.int .i64 0)))⟩])
     (.cond (.t 21) (.reg [⟨some 22, none, .d (.mv (.t 3))⟩,
        ⟨some 23, none, .d (.fa 0 (.t 1))⟩,
        ⟨some 24, none, .d (.load false 1 (.t 23))⟩,
        ⟨some 25, none, .d (.mv (.t 4))⟩,
        ⟨some 26, none, .d (.ia 1 (.t 24) (.t 25))⟩,
        ⟨some 27, none, .d (.load false 1 (.t 26))⟩,
        ⟨some 28, none, .d (.ia 1 (.t 22) (.t 27))⟩,
        ⟨some 29, none, .d (.load false 1 (.t 28))⟩,
        ⟨some 30, none, .d (.bin .arith .add (.t 29) (.c (.int .i64 1)))⟩,
        ⟨some 31, none, .d (.ia 1 (.t 22) (.t 27))⟩,
        ⟨none, none, .w (.store 1 (.t 31) (.t 30))⟩]) (.skip))))
    (.reg [⟨some 14, none, .d (.mv (.t 4))⟩,
      ⟨some 15, none, .d (.bin .arith .add (.t 14) (.c (.int .i64 1)))⟩,
      ⟨some 4, none, .d (.mv (.t 15))⟩]))))))
  (.seq (.reg [⟨some 32, none, .d (.mv (.t 3))⟩,
    ⟨some 2, none, .d (.mv (.t 32))⟩])
  (.ret)))), [.tmp 2]⟩
def n_l2Counts : Nat → Option Ann := fun _ => none
abbrev k_l2Counts : List Nat := [0, 1, 2, 3, 4, 13, 21]
abbrev o_l2Counts : List Nat := [1, 8]
def c_countsS : Con := pure' fun
  | [.p (.agg [.sl 1 x_, .int .i64 m])] => if isI x_ = true ∧ (isSt (ofI x_) m = true) then some (.ar 2000000, [.arr 1 (ints (cntL m (ofI x_)))]) else none
  | _ => none
theorem s_countsS {P : Program} (hm : P.follows .mixedOrders = true) {Γ : Gam} (hΓ : GS P Γ) {n : FuncId} (is : Is P n a_countsS)  : Says P n c_countsS := by
  refine Says.pure fun args r fs h => ?_
  split at h
  case h_2 => cases h
  rename_i x_ m
  split at h
  case isFalse => cases h
  rename_i hc
  obtain ⟨hx_, hc⟩ := hc
  obtain ⟨x, rfl⟩ := isI_out hx_
  simp only [ofI_ints, ofBo_bools, ofAs_asks, Option.some.injEq, Prod.mk.injEq] at h hc
  obtain ⟨rfl, rfl⟩ := h
  obtain ⟨⟨hl1, hl2⟩, ⟨hm0, hm2⟩, hx⟩ := st_out hc
  have hwm : IntKind.i64.wrap (m + 1) = m + 1 := wrap64 (by omega) (by omega)
  have hm1 : (0 : Int) ≤ m + 1 := by omega
  have hroom : (m + 1).toNat ≤ roomA := by unfold roomA; omega
  have hz := cntP_0 (fun _ => true) m x
  refine is.go hm hΓ k_countsS o_countsS (by simp [a_countsS]) ?_
  simp only [a_countsS, hwm, hm1, hroom, ints_rep, hz, List.zipIdx_cons, List.zipIdx_nil, ↓SP, SQ, Gam.add, stepM, callC, argC, lendO, nmBy, nmC, likeL, likeB, plainOb, offs, exL, X, F, trP, trO, stepD, stepW, newA, SV.tr, SV.trL, fz, allP, Ob.tr, loadA, cellsA, SV.cells, binA, binI, eqOut, isSl, isPt, natOf, callee, snap, SV.refsL, SV.refs, thaw, fzAll, loA, hiA, elemOf, partsA, buildA, putCells, ↓reduceIte, reduceCtorEq, okCell, Nat.reduceAdd, Nat.reduceEqDiff, Nat.reduceSub, Nat.reduceMul, Nat.reduceLeDiff, Nat.reduceLT, Nat.reduceBEq, PV.scal, PV.scalL, SV.scal, SV.scalL, Ob.scal, PV.isCell, pure', resO]
  refine loop_at (fun s : Nat × SV × SV × SV => mkEnv [(0, .p (.agg [.sl 1 (ints x), .int .i64 m])), (1, .bx 1 0), (2, .p .nilsl), (3, .ar 9), (5, s.2.1), (11, .p (.sl 1 (ints x))), (12, si x.length), (13, si s.1), (14, s.2.2.1), (18, s.2.2.2)]) (fun s => mkO [(1, some (.box [.p (.sl 1 (ints x)), si m])), (9, some (.arr 1 (ints (cntP (fun _ => true) m x s.1))))]) (fun s => s.1 ≤ x.length) (fun s => x.length - s.1) (0, .junk, .junk, .junk) (by simp) rfl rfl ?_
  rintro ⟨i, c1, c2, c3⟩ hi R hR hN
  simp only at hi
  by_cases h : i < x.length
  · have h1 : (i : Int) < x.length := by omega
    have hw := wrap_one (i := i) (by omega)
    have hg := ints_get h
    have hxi := hx i h
    by_cases h0 : 0 ≤ x.getD i 0
    · have h0' : x.getD i 0 ≥ 0 := h0
      have hcl := cntP_len (fun _ => true) m x i
      have hlt : (x.getD i 0).toNat < (m + 1).toNat := by omega
      have hge := ints_get (l := cntP (fun _ => true) m x i) (i := (x.getD i 0).toNat) (by rw [hcl]; exact hlt)
      have hb := cntP_bd (p := fun _ => true) (m := m) (x := x) (i := i) (j := (x.getD i 0).toNat)
      have hw1 : IntKind.i64.wrap ((cntP (fun _ => true) m x i).getD (x.getD i 0).toNat 0 + 1) = (cntP (fun _ => true) m x i).getD (x.getD i 0).toNat 0 + 1 := wrap64 (by omega) (by omega)
      have hset := cntP_hit (p := fun _ => true) (i := i) rfl h0 hxi.2
      simp only [h1, hw, hg, h0, h0', hcl, hlt, hge, hw1, hset, ints_len, ints_set, ↓SP, SQ, Gam.add, stepM, callC, argC, lendO, nmBy, nmC, likeL, likeB, plainOb, offs, exL, X, F, trP, trO, stepD, stepW, newA, SV.tr, SV.trL, fz, allP, Ob.tr, loadA, cellsA, SV.cells, binA, binI, eqOut, isSl, isPt, natOf, callee, snap, SV.refsL, SV.refs, thaw, fzAll, loA, hiA, elemOf, partsA, buildA, putCells, ↓reduceIte, reduceCtorEq, okCell, Nat.reduceAdd, Nat.reduceEqDiff, Nat.reduceSub, Nat.reduceMul, Nat.reduceLeDiff, Nat.reduceLT, Nat.reduceBEq, PV.scal, PV.scalL, SV.scal, SV.scalL, Ob.scal, PV.isCell, pure', resO]
      exact hN (i + 1, _, _, _) _ _ (by simp only; omega) (by simp only; omega) rfl rfl
    · have h0' : ¬ x.getD i 0 ≥ 0 := h0
      have hmi := cntP_miss (p := fun _ => true) (m := m) (i := i) (.inr h0)
      simp only [h1, hw, hg, h0', ↓SP, SQ, Gam.add, stepM, callC, argC, lendO, nmBy, nmC, likeL, likeB, plainOb, offs, exL, X, F, trP, trO, stepD, stepW, newA, SV.tr, SV.trL, fz, allP, Ob.tr, loadA, cellsA, SV.cells, binA, binI, eqOut, isSl, isPt, natOf, callee, snap, SV.refsL, SV.refs, thaw, fzAll, loA, hiA, elemOf, partsA, buildA, putCells, ↓reduceIte, reduceCtorEq, okCell, Nat.reduceAdd, Nat.reduceEqDiff, Nat.reduceSub, Nat.reduceMul, Nat.reduceLeDiff, Nat.reduceLT, Nat.reduceBEq, PV.scal, PV.scalL, SV.scal, SV.scalL, Ob.scal, PV.isCell, pure', resO]
      exact hN (i + 1, _, _, _) _ _ (by simp only; omega) (by simp only; omega) rfl (by rw [hmi])
  · have he : i = x.length := by omega
    have h1 : ¬ (i : Int) < x.length := by omega
    simp only [h1, ↓SP, SQ, Gam.add, stepM, callC, argC, lendO, nmBy, nmC, likeL, likeB, plainOb, offs, exL, X, F, trP, trO, stepD, stepW, newA, SV.tr, SV.trL, fz, allP, Ob.tr, loadA, cellsA, SV.cells, binA, binI, eqOut, isSl, isPt, natOf, callee, snap, SV.refsL, SV.refs, thaw, fzAll, loA, hiA, elemOf, partsA, buildA, putCells, ↓reduceIte, reduceCtorEq, okCell, Nat.reduceAdd, Nat.reduceEqDiff, Nat.reduceSub, Nat.reduceMul, Nat.reduceLeDiff, Nat.reduceLT, Nat.reduceBEq, PV.scal, PV.scalL, SV.scal, SV.scalL, Ob.scal, PV.isCell, pure', resO]
    refine hR _ _ _ (by intro h; cases h) ?_
    simp only [↓SP, SQ, Gam.add, stepM, callC, argC, lendO, nmBy, nmC, likeL, likeB, plainOb, offs, exL, X, F, trP, trO, stepD, stepW, newA, SV.tr, SV.trL, fz, allP, Ob.tr, loadA, cellsA, SV.cells, binA, binI, eqOut, isSl, isPt, natOf, callee, snap, SV.refsL, SV.refs, thaw, fzAll, loA, hiA, elemOf, partsA, buildA, putCells, ↓reduceIte, reduceCtorEq, okCell, Nat.reduceAdd, Nat.reduceEqDiff, Nat.reduceSub, Nat.reduceMul, Nat.reduceLeDiff, Nat.reduceLT, Nat.reduceBEq, PV.scal, PV.scalL, SV.scal, SV.scalL, Ob.scal, PV.isCell, pure', resO]
    subst he
    refine finA_gen [9] trivial (by simp [retA, rvA, List.mapM_cons, List.mapM_nil, Option.pure_def, Option.bind_eq_bind, Option.bind_some, Option.map_some, mkE_cons, mk_nil, mkO_cons, mkO_nil, loadA, ↓reduceIte, List.take_succ_cons, List.take_zero, List.drop_zero, List.drop_succ_cons, List.length_cons, List.length_nil, Nat.reduceAdd, Nat.reduceEqDiff, Nat.reduceLeDiff, Nat.zero_add, Nat.le_refl, reduceCtorEq, SV.tr, SV.trL, nmF, rn_nil, rn_cons1, rn_cons2, List.map_cons, List.map_nil, List.all_cons, List.all_nil, plainOb, SV.refsL, SV.refs, Ob.refs, X, F, List.range_succ, List.range_zero, List.nil_append, List.cons_append, List.isEmpty_nil, decide_true, Nat.reduceLT, Bool.and_self, Bool.and_true, and_self, and_true, List.getElem?_cons_zero, List.getElem?_cons_succ, List.nodup_cons, List.nodup_nil, List.mem_cons, List.not_mem_nil, not_false_eq_true, or_false, List.append_nil, mkO, setO_mk, List.mem_singleton]; rfl) ?_ ?_ ?_ ?_ ?_ ?_ ?_ <;> simp [cntL, retA, rvA, List.mapM_cons, List.mapM_nil, Option.pure_def, Option.bind_eq_bind, Option.bind_some, Option.map_some, mkE_cons, mk_nil, mkO_cons, mkO_nil, loadA, ↓reduceIte, List.take_succ_cons, List.take_zero, List.drop_zero, List.drop_succ_cons, List.length_cons, List.length_nil, Nat.reduceAdd, Nat.reduceEqDiff, Nat.reduceLeDiff, Nat.zero_add, Nat.le_refl, reduceCtorEq, SV.tr, SV.trL, nmF, rn_nil, rn_cons1, rn_cons2, List.map_cons, List.map_nil, List.all_cons, List.all_nil, plainOb, SV.refsL, SV.refs, Ob.refs, X, F, List.range_succ, List.range_zero, List.nil_append, List.cons_append, List.isEmpty_nil, decide_true, Nat.reduceLT, Bool.and_self, Bool.and_true, and_self, and_true, List.getElem?_cons_zero, List.getElem?_cons_succ, List.nodup_cons, List.nodup_nil, List.mem_cons, List.not_mem_nil, not_false_eq_true, or_false, List.append_nil, mkO, setO_mk, List.mem_singleton]
theorem s_l2Counts {P : Program} (hm : P.follows .mixedOrders = true) {Γ : Gam} (hΓ : GS P Γ) {n : FuncId} (is : Is P n a_l2Counts)  : Says P n c_countsS := by
  refine Says.pure fun args r fs h => ?_
  split at h
  case h_2 => cases h
  rename_i x_ m
  split at h
  case isFalse => cases h
  rename_i hc
  obtain ⟨hx_, hc⟩ := hc
  obtain ⟨x, rfl⟩ := isI_out hx_
  simp only [ofI_ints, ofBo_bools, ofAs_asks, Option.some.injEq, Prod.mk.injEq] at h hc
  obtain ⟨rfl, rfl⟩ := h
  obtain ⟨⟨hl1, hl2⟩, ⟨hm0, hm2⟩, hx⟩ := st_out hc
  have hwm : IntKind.i64.wrap (m + 1) = m + 1 := wrap64 (by omega) (by omega)
  have hm1 : (0 : Int) ≤ m + 1 := by omega
  have hroom : (m + 1).toNat ≤ roomA := by unfold roomA; omega
  have hz := cntP_0 (fun _ => true) m x
  refine is.go hm hΓ k_l2Counts o_l2Counts (by simp [a_l2Counts]) ?_
  simp only [a_l2Counts, hwm, hm1, hroom, ints_rep, hz, List.zipIdx_cons, List.zipIdx_nil, ↓SP, SQ, Gam.add, stepM, callC, argC, lendO, nmBy, nmC, likeL, likeB, plainOb, offs, exL, X, F, trP, trO, stepD, stepW, newA, SV.tr, SV.trL, fz, allP, Ob.tr, loadA, cellsA, SV.cells, binA, binI, eqOut, isSl, isPt, natOf, callee, snap, SV.refsL, SV.refs, thaw, fzAll, loA, hiA, elemOf, partsA, buildA, putCells, ↓reduceIte, reduceCtorEq, okCell, Nat.reduceAdd, Nat.reduceEqDiff, Nat.reduceSub, Nat.reduceMul, Nat.reduceLeDiff, Nat.reduceLT, Nat.reduceBEq, PV.scal, PV.scalL, SV.scal, SV.scalL, Ob.scal, PV.isCell, pure', resO]
  refine loop_at (fun s : Nat × SV × SV => mkEnv [(0, .p (.agg [.sl 1 (ints x), .int .i64 m])), (1, .bx 1 0), (2, .p .nilsl), (3, .ar 8), (4, si s.1), (13, s.2.1), (21, s.2.2)]) (fun s => mkO [(1, some (.box [.p (.sl 1 (ints x)), si m])), (8, some (.arr 1 (ints (cntP (fun _ => true) m x s.1))))]) (fun s => s.1 ≤ x.length) (fun s => x.length - s.1) (0, .junk, .junk) (by simp) rfl rfl ?_
  rintro ⟨i, c1, c2⟩ hi R hR hN
  simp only at hi
  by_cases h : i < x.length
  · have h1 : (i : Int) < x.length := by omega
    have hw := wrap_one (i := i) (by omega)
    have hg := ints_get h
    have hxi := hx i h
    by_cases h0 : 0 ≤ x.getD i 0
    · have h0' : x.getD i 0 ≥ 0 := h0
      have hcl := cntP_len (fun _ => true) m x i
      have hlt : (x.getD i 0).toNat < (m + 1).toNat := by omega
      have hge := ints_get (l := cntP (fun _ => true) m x i) (i := (x.getD i 0).toNat) (by rw [hcl]; exact hlt)
      have hb := cntP_bd (p := fun _ => true) (m := m) (x := x) (i := i) (j := (x.getD i 0).toNat)
      have hw1 : IntKind.i64.wrap ((cntP (fun _ => true) m x i).getD (x.getD i 0).toNat 0 + 1) = (cntP (fun _ => true) m x i).getD (x.getD i 0).toNat 0 + 1 := wrap64 (by omega) (by omega)
      have hset := cntP_hit (p := fun _ => true) (i := i) rfl h0 hxi.2
      simp only [h1, hw, hg, h0, h0', hcl, hlt, hge, hw1, hset, ints_len, ints_set, ↓SP, SQ, Gam.add, stepM, callC, argC, lendO, nmBy, nmC, likeL, likeB, plainOb, offs, exL, X, F, trP, trO, stepD, stepW, newA, SV.tr, SV.trL, fz, allP, Ob.tr, loadA, cellsA, SV.cells, binA, binI, eqOut, isSl, isPt, natOf, callee, snap, SV.refsL, SV.refs, thaw, fzAll, loA, hiA, elemOf, partsA, buildA, putCells, ↓reduceIte, reduceCtorEq, okCell, Nat.reduceAdd, Nat.reduceEqDiff, Nat.reduceSub, Nat.reduceMul, Nat.reduceLeDiff, Nat.reduceLT, Nat.reduceBEq, PV.scal, PV.scalL, SV.scal, SV.scalL, Ob.scal, PV.isCell, pure', resO]
      exact hN (i + 1, _, _) _ _ (by simp only; omega) (by simp only; omega) rfl rfl
    · have h0' : ¬ x.getD i 0 ≥ 0 := h0
      have hmi := cntP_miss (p := fun _ => true) (m := m) (i := i) (.inr h0)
      simp only [h1, hw, hg, h0', ints_len, ↓SP, SQ, Gam.add, stepM, callC, argC, lendO, nmBy, nmC, likeL, likeB, plainOb, offs, exL, X, F, trP, trO, stepD, stepW, newA, SV.tr, SV.trL, fz, allP, Ob.tr, loadA, cellsA, SV.cells, binA, binI, eqOut, isSl, isPt, natOf, callee, snap, SV.refsL, SV.refs, thaw, fzAll, loA, hiA, elemOf, partsA, buildA, putCells, ↓reduceIte, reduceCtorEq, okCell, Nat.reduceAdd, Nat.reduceEqDiff, Nat.reduceSub, Nat.reduceMul, Nat.reduceLeDiff, Nat.reduceLT, Nat.reduceBEq, PV.scal, PV.scalL, SV.scal, SV.scalL, Ob.scal, PV.isCell, pure', resO]
      exact hN (i + 1, _, _) _ _ (by simp only; omega) (by simp only; omega) rfl (by rw [hmi])
  · have he : i = x.length := by omega
    have h1 : ¬ (i : Int) < x.length := by omega
    simp only [h1, ints_len, ↓SP, SQ, Gam.add, stepM, callC, argC, lendO, nmBy, nmC, likeL, likeB, plainOb, offs, exL, X, F, trP, trO, stepD, stepW, newA, SV.tr, SV.trL, fz, allP, Ob.tr, loadA, cellsA, SV.cells, binA, binI, eqOut, isSl, isPt, natOf, callee, snap, SV.refsL, SV.refs, thaw, fzAll, loA, hiA, elemOf, partsA, buildA, putCells, ↓reduceIte, reduceCtorEq, okCell, Nat.reduceAdd, Nat.reduceEqDiff, Nat.reduceSub, Nat.reduceMul, Nat.reduceLeDiff, Nat.reduceLT, Nat.reduceBEq, PV.scal, PV.scalL, SV.scal, SV.scalL, Ob.scal, PV.isCell, pure', resO]
    refine hR _ _ _ (by intro h; cases h) ?_
    simp only [↓SP, SQ, Gam.add, stepM, callC, argC, lendO, nmBy, nmC, likeL, likeB, plainOb, offs, exL, X, F, trP, trO, stepD, stepW, newA, SV.tr, SV.trL, fz, allP, Ob.tr, loadA, cellsA, SV.cells, binA, binI, eqOut, isSl, isPt, natOf, callee, snap, SV.refsL, SV.refs, thaw, fzAll, loA, hiA, elemOf, partsA, buildA, putCells, ↓reduceIte, reduceCtorEq, okCell, Nat.reduceAdd, Nat.reduceEqDiff, Nat.reduceSub, Nat.reduceMul, Nat.reduceLeDiff, Nat.reduceLT, Nat.reduceBEq, PV.scal, PV.scalL, SV.scal, SV.scalL, Ob.scal, PV.isCell, pure', resO]
    subst he
    refine finA_gen [8] trivial (by simp [retA, rvA, List.mapM_cons, List.mapM_nil, Option.pure_def, Option.bind_eq_bind, Option.bind_some, Option.map_some, mkE_cons, mk_nil, mkO_cons, mkO_nil, loadA, ↓reduceIte, List.take_succ_cons, List.take_zero, List.drop_zero, List.drop_succ_cons, List.length_cons, List.length_nil, Nat.reduceAdd, Nat.reduceEqDiff, Nat.reduceLeDiff, Nat.zero_add, Nat.le_refl, reduceCtorEq, SV.tr, SV.trL, nmF, rn_nil, rn_cons1, rn_cons2, List.map_cons, List.map_nil, List.all_cons, List.all_nil, plainOb, SV.refsL, SV.refs, Ob.refs, X, F, List.range_succ, List.range_zero, List.nil_append, List.cons_append, List.isEmpty_nil, decide_true, Nat.reduceLT, Bool.and_self, Bool.and_true, and_self, and_true, List.getElem?_cons_zero, List.getElem?_cons_succ, List.nodup_cons, List.nodup_nil, List.mem_cons, List.not_mem_nil, not_false_eq_true, or_false, List.append_nil, mkO, setO_mk, List.mem_singleton]; rfl) ?_ ?_ ?_ ?_ ?_ ?_ ?_ <;> simp [cntL, retA, rvA, List.mapM_cons, List.mapM_nil, Option.pure_def, Option.bind_eq_bind, Option.bind_some, Option.map_some, mkE_cons, mk_nil, mkO_cons, mkO_nil, loadA, ↓reduceIte, List.take_succ_cons, List.take_zero, List.drop_zero, List.drop_succ_cons, List.length_cons, List.length_nil, Nat.reduceAdd, Nat.reduceEqDiff, Nat.reduceLeDiff, Nat.zero_add, Nat.le_refl, reduceCtorEq, SV.tr, SV.trL, nmF, rn_nil, rn_cons1, rn_cons2, List.map_cons, List.map_nil, List.all_cons, List.all_nil, plainOb, SV.refsL, SV.refs, Ob.refs, X, F, List.range_succ, List.range_zero, List.nil_append, List.cons_append, List.isEmpty_nil, decide_true, Nat.reduceLT, Bool.and_self, Bool.and_true, and_self, and_true, List.getElem?_cons_zero, List.getElem?_cons_succ, List.nodup_cons, List.nodup_nil, List.mem_cons, List.not_mem_nil, not_false_eq_true, or_false, List.append_nil, mkO, setO_mk, List.mem_singleton]
def a_splitS (f_has : FuncId) : AFn := ⟨2, 
  .seq (.reg [⟨some 2, none, .w (.box 2 (.t 0))⟩,
    ⟨some 4, none, .d (.mv (.c (.nilsl)))⟩])
  (.seq (.reg [⟨some 8, none, .d (.fa 1 (.t 2))⟩,
    ⟨some 9, none, .d (.load false 1 (.t 8))⟩,
    ⟨some 10, none, .d (.bin .arith .add (.t 9) (.c (.int .i64 1)))⟩,
    ⟨some 11, none, .w (.mkslice 1 (.int .i64 0) (.t 10))⟩,
    ⟨some 5, none, .d (.mv (.t 11))⟩])
  (.seq (.seq (.reg [⟨some 12, none, .d (.fa 0 (.t 2))⟩,
    ⟨some 13, none, .d (.load false 1 (.t 12))⟩,
    ⟨some 14, none, .d (.len (.t 13))⟩,
    ⟨some 15, none, .d (.mv (.c (.int .i64 0)))⟩])
  (.block 0 (.loop (.seq (.reg [⟨some 16, none, .d (.bin .arith .lss (.t 15) (.t 14))⟩])
    (.seq (.cond (.t 16) (.skip) (.exit 0))
    (.seq (.block 1 (.seq (.reg [⟨some 17, none, .d (.mv (.t 15))⟩,
       ⟨some 18, none, .d (.ia 1 (.t 13) (.t 15))⟩,
       ⟨some 19, none, .d (.load false 1 (.t 18))⟩,
       ⟨some 6, none, .d (.mv (.t 17))⟩,
       ⟨some 7, none, .d (.mv (.t 19))⟩])
     (.seq (.reg [⟨some 20, none, .d (.mv (.t 7))⟩,
       ⟨some 21, none, .d (.bin .arith .geq (.t 20) (.c (.int .i64 0)))⟩,
       ⟨some 22, none, .d (.mv (.t 21))⟩,
       ⟨some 23, some (22, true), .d (.mv (.t 1))⟩,
       ⟨some 24, some (22, true), .d (.mv (.t 6))⟩,
       ⟨some 25, some (22, true), .d (.call (.f f_has) [(.t 23), (.t 24)])⟩,
       ⟨some 26, none, .d (.pick (.t 22) (.t 25) (.c (.bool false)))⟩])
     (.cond (.t 26) (.reg [⟨some 27, none, .d (.mv (.t 5))⟩,
        ⟨some 28, none, .d (.mv (.t 7))⟩,
        ⟨some 29, none, .d (.ia 1 (.t 27) (.t 28))⟩,
        ⟨some 30, none, .d (.load false 1 (.t 29))⟩,
        ⟨some 31, none, .d (.bin .arith .add (.t 30) (.c (.int .i64 1)))⟩,
        ⟨some 32, none, .d (.ia 1 (.t 27) (.t 28))⟩,
        ⟨none, none, .w (.store 1 (.t 32) (.t 31))⟩]) (.skip)))))
    (.reg [⟨some 33, none, .d (.bin .arith .add (.t 15) (.c (.int .i64 1)))⟩,
      ⟨some 15, none, .d (.mv (.t 33))⟩])))))))
  (.seq (.reg [⟨some 34, none, .d (.mv (.t 5))⟩,
    ⟨some 4, none, .d (.mv (.t 34))⟩])
  (.ret)))), [.tmp 4]⟩
def n_splitS : Nat → Option Ann := fun _ => none
abbrev k_splitS : List Nat := [0, 1, 2, 4, 5, 6, 7, 13, 14, 15, 16, 26]
abbrev o_splitS : List Nat := [2, 11]
def a_l4Of : AFn := ⟨2, 
  .seq (.reg [⟨some 2, none, .w (.box 2 (.t 0))⟩,
    ⟨some 4, none, .d (.mv (.c (.nilsl)))⟩])
  (.seq (.reg [⟨some 7, none, .d (.fa 1 (.t 2))⟩,
    ⟨some 8, none, .d (.load false 1 (.t 7))⟩,
    ⟨some 9, none, .d (.bin .arith .add (.t 8) (.c (.int .i64 1)))⟩,
    ⟨some 10, none, .w (.mkslice 1 (.int .i64 0) (.t 9))⟩,
    ⟨some 5, none, .d (.mv (.t 10))⟩])
  (.seq (.seq (.reg [⟨some 6, none, .d (.mv (.c (.int .i64 0)))⟩])
  (.block 0 (.loop (.seq (.seq (.reg [⟨some 11, none, .d (.mv (.t 6))⟩,
      ⟨some 12, none, .d (.fa 0 (.t 2))⟩,
      ⟨some 13, none, .d (.load false 1 (.t 12))⟩,
      ⟨some 14, none, .d (.len (.t 13))⟩,
      ⟨some 15, none, .d (.bin .arith .lss (.t 11) (.t 14))⟩])
    (.cond (.t 15) (.skip) (.exit 0)))
    (.seq (.block 1 (.seq (.reg [⟨some 18, none, .d (.fa 0 (.t 2))⟩,
       ⟨some 19, none, .d (.load false 1 (.t 18))⟩,
       ⟨some 20, none, .d (.mv (.t 6))⟩,
       ⟨some 21, none, .d (.ia 1 (.t 19) (.t 20))⟩,
       ⟨some 22, none, .d (.load false 1 (.t 21))⟩,
       ⟨some 23, none, .d (.bin .arith .geq (.t 22) (.c (.int .i64 0)))⟩,
       ⟨some 24, none, .d (.mv (.t 23))⟩,
       ⟨some 25, some (24, true), .d (.mv (.t 1))⟩,
       ⟨some 26, some (24, true), .d (.mv (.t 6))⟩,
       ⟨some 27, some (24, true), .d (.bin .arith .shr (.t 25) (.t 26))⟩,
       ⟨some 28, some (24, true), .d (.bin .arith .and (.t 27) (.c (.int .i64 1)))⟩,
       ⟨some 29, some (24, true), .d (.bin .arith .eql (.t 28) (.c (.int .i64 1)))⟩,
       ⟨some 30, none, .d (.pick (.t 24) (.t 29) (.c (.bool false)))⟩])
     (.cond (.t 30) (.reg [⟨some 31, none, .d (.mv (.t 5))⟩,
        ⟨some 32, none, .d (.fa 0 (.t 2))⟩,
        ⟨some 33, none, .d (.load false 1 (.t 32))⟩,
        ⟨some 34, none, .d (.mv (.t 6))⟩,
        ⟨some 35, none, .d (.ia 1 (.t 33) (.t 34))⟩,
        ⟨some 36, none, .d (.load false 1 (.t 35))⟩,
        ⟨some 37, none, .d (.ia 1 (.t 31) (.t 36))⟩,
        ⟨some 38, none, .d (.load false 1 (.t 37))⟩,
        ⟨some 39, none, .d (.bin .arith .add (.t 38) (.c (.int .i64 1)))⟩,
        ⟨some 40, none, .d (.ia 1 (.t 31) (.t 36))⟩,
        ⟨none, none, .w (.store 1 (.t 40) (.t 39))⟩]) (.skip))))
    (.reg [⟨some 16, none, .d (.mv (.t 6))⟩,
      ⟨some 17, none, .d (.bin .arith .add (.t 16) (.c (.int .i64 1)))⟩,
      ⟨some 6, none, .d (.mv (.t 17))⟩]))))))
  (.seq (.reg [⟨some 41, none, .d (.mv (.t 5))⟩,
    ⟨some 4, none, .d (.mv (.t 41))⟩])
  (.ret)))), [.tmp 4]⟩
def n_l4Of : Nat → Option Ann := fun _ => none
abbrev k_l4Of : List Nat := [0, 1, 2, 4, 5, 6, 15, 30]
abbrev o_l4Of : List Nat := [2, 10]
def c_splitS : Con := pure' fun
  | [.p (.agg [.sl 1 x_, .int .i64 m]), .p (.int .i64 q)] => if isI x_ = true ∧ (isSt (ofI x_) m = true) then some (.ar 2000000, [.arr 1 (ints (spQ m (ofI x_) q))]) else none
  | _ => none
theorem s_splitS {P : Program} (hm : P.follows .mixedOrders = true) {Γ : Gam} (hΓ : GS P Γ) {n : FuncId} {f_has : FuncId} (is : Is P n (a_splitS f_has)) (h_has : Γ f_has = c_has)  : Says P n c_splitS := by
  refine Says.pure fun args r fs h => ?_
  split at h
  case h_2 => cases h
  rename_i x_ m q
  split at h
  case isFalse => cases h
  rename_i hc
  obtain ⟨hx_, hc⟩ := hc
  obtain ⟨x, rfl⟩ := isI_out hx_
  simp only [ofI_ints, ofBo_bools, ofAs_asks, Option.some.injEq, Prod.mk.injEq] at h hc
  obtain ⟨rfl, rfl⟩ := h
  obtain ⟨⟨hl1, hl2⟩, ⟨hm0, hm2⟩, hx⟩ := st_out hc
  have hwm : IntKind.i64.wrap (m + 1) = m + 1 := wrap64 (by omega) (by omega)
  have hm1 : (0 : Int) ≤ m + 1 := by omega
  have hroom : (m + 1).toNat ≤ roomA := by unfold roomA; omega
  have hz := cntP_0 (fun k => bitW q (k : Int) == 1) m x
  refine is.go hm hΓ k_splitS o_splitS (by simp [a_splitS]) ?_
  simp only [a_splitS, h_has, c_has, hwm, hm1, hroom, ints_rep, hz, List.zipIdx_cons, List.zipIdx_nil, ↓SP, SQ, Gam.add, stepM, callC, argC, lendO, nmBy, nmC, likeL, likeB, plainOb, offs, exL, X, F, trP, trO, stepD, stepW, newA, SV.tr, SV.trL, fz, allP, Ob.tr, loadA, cellsA, SV.cells, binA, binI, eqOut, isSl, isPt, natOf, callee, snap, SV.refsL, SV.refs, thaw, fzAll, loA, hiA, elemOf, partsA, buildA, putCells, ↓reduceIte, reduceCtorEq, okCell, Nat.reduceAdd, Nat.reduceEqDiff, Nat.reduceSub, Nat.reduceMul, Nat.reduceLeDiff, Nat.reduceLT, Nat.reduceBEq, PV.scal, PV.scalL, SV.scal, SV.scalL, Ob.scal, PV.isCell, pure', resO]
  obtain ⟨p, hpd⟩ : ∃ p, (fun k : Nat => bitW q (k : Int) == 1) = p := ⟨_, rfl⟩
  have hpe : ∀ k : Nat, (bitW q (k : Int) == 1) = p k := fun k => by rw [← hpd]
  simp only [hpd]
  refine loop_at (fun s : Nat × SV × SV × SV × SV => mkEnv [(0, .p (.agg [.sl 1 (ints x), .int .i64 m])), (1, si q), (2, .bx 2 0), (4, .p .nilsl), (5, .ar 11), (6, s.2.1), (7, s.2.2.1), (13, .p (.sl 1 (ints x))), (14, si x.length), (15, si s.1), (16, s.2.2.2.1), (26, s.2.2.2.2)]) (fun s => mkO [(2, some (.box [.p (.sl 1 (ints x)), si m])), (11, some (.arr 1 (ints (cntP p m x s.1))))]) (fun s => s.1 ≤ x.length) (fun s => x.length - s.1) (0, .junk, .junk, .junk, .junk) (by simp) rfl rfl ?_
  rintro ⟨i, c1, c2, c3, c4⟩ hi R hR hN
  simp only at hi
  by_cases h : i < x.length
  · have h1 : (i : Int) < x.length := by omega
    have hi0 : (0 : Int) ≤ (i : Int) := by omega
    have hw := wrap_one (i := i) (by omega)
    have hg := ints_get h
    have hxi := hx i h
    by_cases h0 : 0 ≤ x.getD i 0
    · have h0' : x.getD i 0 ≥ 0 := h0
      cases hp : p i with
      | true =>
        have hcl := cntP_len p m x i
        have hlt : (x.getD i 0).toNat < (m + 1).toNat := by omega
        have hge := ints_get (l := cntP p m x i) (i := (x.getD i 0).toNat) (by rw [hcl]; exact hlt)
        have hb := cntP_bd (p := p) (m := m) (x := x) (i := i) (j := (x.getD i 0).toNat)
        have hw1 : IntKind.i64.wrap ((cntP p m x i).getD (x.getD i 0).toNat 0 + 1) = (cntP p m x i).getD (x.getD i 0).toNat 0 + 1 := wrap64 (by omega) (by omega)
        have hset := cntP_hit (p := p) (i := i) hp h0 hxi.2
        simp only [h1, hi0, hw, hg, h0, h0', hpe, hp, hcl, hlt, hge, hw1, hset, h_has, c_has, ints_len, ints_set, ↓SP, SQ, Gam.add, stepM, callC, argC, lendO, nmBy, nmC, likeL, likeB, plainOb, offs, exL, X, F, trP, trO, stepD, stepW, newA, SV.tr, SV.trL, fz, allP, Ob.tr, loadA, cellsA, SV.cells, binA, binI, eqOut, isSl, isPt, natOf, callee, snap, SV.refsL, SV.refs, thaw, fzAll, loA, hiA, elemOf, partsA, buildA, putCells, ↓reduceIte, reduceCtorEq, okCell, Nat.reduceAdd, Nat.reduceEqDiff, Nat.reduceSub, Nat.reduceMul, Nat.reduceLeDiff, Nat.reduceLT, Nat.reduceBEq, PV.scal, PV.scalL, SV.scal, SV.scalL, Ob.scal, PV.isCell, pure', resO]
        exact hN (i + 1, _, _, _, _) _ _ (by simp only; omega) (by simp only; omega) rfl rfl
      | false =>
        have hmi := cntP_miss (p := p) (m := m) (x := x) (i := i) (.inl hp)
        simp only [h1, hi0, hw, hg, h0, h0', hpe, hp, h_has, c_has, ↓SP, SQ, Gam.add, stepM, callC, argC, lendO, nmBy, nmC, likeL, likeB, plainOb, offs, exL, X, F, trP, trO, stepD, stepW, newA, SV.tr, SV.trL, fz, allP, Ob.tr, loadA, cellsA, SV.cells, binA, binI, eqOut, isSl, isPt, natOf, callee, snap, SV.refsL, SV.refs, thaw, fzAll, loA, hiA, elemOf, partsA, buildA, putCells, ↓reduceIte, reduceCtorEq, okCell, Nat.reduceAdd, Nat.reduceEqDiff, Nat.reduceSub, Nat.reduceMul, Nat.reduceLeDiff, Nat.reduceLT, Nat.reduceBEq, PV.scal, PV.scalL, SV.scal, SV.scalL, Ob.scal, PV.isCell, pure', resO]
        exact hN (i + 1, _, _, _, _) _ _ (by simp only; omega) (by simp only; omega) rfl (by rw [hmi])
    · have h0' : ¬ x.getD i 0 ≥ 0 := h0
      have hmi := cntP_miss (p := p) (m := m) (i := i) (.inr h0)
      simp only [h1, hw, hg, h0', ↓SP, SQ, Gam.add, stepM, callC, argC, lendO, nmBy, nmC, likeL, likeB, plainOb, offs, exL, X, F, trP, trO, stepD, stepW, newA, SV.tr, SV.trL, fz, allP, Ob.tr, loadA, cellsA, SV.cells, binA, binI, eqOut, isSl, isPt, natOf, callee, snap, SV.refsL, SV.refs, thaw, fzAll, loA, hiA, elemOf, partsA, buildA, putCells, ↓reduceIte, reduceCtorEq, okCell, Nat.reduceAdd, Nat.reduceEqDiff, Nat.reduceSub, Nat.reduceMul, Nat.reduceLeDiff, Nat.reduceLT, Nat.reduceBEq, PV.scal, PV.scalL, SV.scal, SV.scalL, Ob.scal, PV.isCell, pure', resO]
      exact hN (i + 1, _, _, _, _) _ _ (by simp only; omega) (by simp only; omega) rfl (by rw [hmi])
  · have he : i = x.length := by omega
    have h1 : ¬ (i : Int) < x.length := by omega
    simp only [h1, ↓SP, SQ, Gam.add, stepM, callC, argC, lendO, nmBy, nmC, likeL, likeB, plainOb, offs, exL, X, F, trP, trO, stepD, stepW, newA, SV.tr, SV.trL, fz, allP, Ob.tr, loadA, cellsA, SV.cells, binA, binI, eqOut, isSl, isPt, natOf, callee, snap, SV.refsL, SV.refs, thaw, fzAll, loA, hiA, elemOf, partsA, buildA, putCells, ↓reduceIte, reduceCtorEq, okCell, Nat.reduceAdd, Nat.reduceEqDiff, Nat.reduceSub, Nat.reduceMul, Nat.reduceLeDiff, Nat.reduceLT, Nat.reduceBEq, PV.scal, PV.scalL, SV.scal, SV.scalL, Ob.scal, PV.isCell, pure', resO]
    refine hR _ _ _ (by intro h; cases h) ?_
    simp only [↓SP, SQ, Gam.add, stepM, callC, argC, lendO, nmBy, nmC, likeL, likeB, plainOb, offs, exL, X, F, trP, trO, stepD, stepW, newA, SV.tr, SV.trL, fz, allP, Ob.tr, loadA, cellsA, SV.cells, binA, binI, eqOut, isSl, isPt, natOf, callee, snap, SV.refsL, SV.refs, thaw, fzAll, loA, hiA, elemOf, partsA, buildA, putCells, ↓reduceIte, reduceCtorEq, okCell, Nat.reduceAdd, Nat.reduceEqDiff, Nat.reduceSub, Nat.reduceMul, Nat.reduceLeDiff, Nat.reduceLT, Nat.reduceBEq, PV.scal, PV.scalL, SV.scal, SV.scalL, Ob.scal, PV.isCell, pure', resO]
    subst he
    subst hpd
    refine finA_gen [11] trivial (by simp [retA, rvA, List.mapM_cons, List.mapM_nil, Option.pure_def, Option.bind_eq_bind, Option.bind_some, Option.map_some, mkE_cons, mk_nil, mkO_cons, mkO_nil, loadA, ↓reduceIte, List.take_succ_cons, List.take_zero, List.drop_zero, List.drop_succ_cons, List.length_cons, List.length_nil, Nat.reduceAdd, Nat.reduceEqDiff, Nat.reduceLeDiff, Nat.zero_add, Nat.le_refl, reduceCtorEq, SV.tr, SV.trL, nmF, rn_nil, rn_cons1, rn_cons2, List.map_cons, List.map_nil, List.all_cons, List.all_nil, plainOb, SV.refsL, SV.refs, Ob.refs, X, F, List.range_succ, List.range_zero, List.nil_append, List.cons_append, List.isEmpty_nil, decide_true, Nat.reduceLT, Bool.and_self, Bool.and_true, and_self, and_true, List.getElem?_cons_zero, List.getElem?_cons_succ, List.nodup_cons, List.nodup_nil, List.mem_cons, List.not_mem_nil, not_false_eq_true, or_false, List.append_nil, mkO, setO_mk, List.mem_singleton]; rfl) ?_ ?_ ?_ ?_ ?_ ?_ ?_ <;> simp [spQ, retA, rvA, List.mapM_cons, List.mapM_nil, Option.pure_def, Option.bind_eq_bind, Option.bind_some, Option.map_some, mkE_cons, mk_nil, mkO_cons, mkO_nil, loadA, ↓reduceIte, List.take_succ_cons, List.take_zero, List.drop_zero, List.drop_succ_cons, List.length_cons, List.length_nil, Nat.reduceAdd, Nat.reduceEqDiff, Nat.reduceLeDiff, Nat.zero_add, Nat.le_refl, reduceCtorEq, SV.tr, SV.trL, nmF, rn_nil, rn_cons1, rn_cons2, List.map_cons, List.map_nil, List.all_cons, List.all_nil, plainOb, SV.refsL, SV.refs, Ob.refs, X, F, List.range_succ, List.range_zero, List.nil_append, List.cons_append, List.isEmpty_nil, decide_true, Nat.reduceLT, Bool.and_self, Bool.and_true, and_self, and_true, List.getElem?_cons_zero, List.getElem?_cons_succ, List.nodup_cons, List.nodup_nil, List.mem_cons, List.not_mem_nil, not_false_eq_true, or_false, List.append_nil, mkO, setO_mk, List.mem_singleton]
theorem s_l4Of {P : Program} (hm : P.follows .mixedOrders = true) {Γ : Gam} (hΓ : GS P Γ) {n : FuncId} (is : Is P n a_l4Of)  : Says P n c_splitS := by
  refine Says.pure fun args r fs h => ?_
  split at h
  case h_2 => cases h
  rename_i x_ m q
  split at h
  case isFalse => cases h
  rename_i hc
  obtain ⟨hx_, hc⟩ := hc
  obtain ⟨x, rfl⟩ := isI_out hx_
  simp only [ofI_ints, ofBo_bools, ofAs_asks, Option.some.injEq, Prod.mk.injEq] at h hc
  obtain ⟨rfl, rfl⟩ := h
  obtain ⟨⟨hl1, hl2⟩, ⟨hm0, hm2⟩, hx⟩ := st_out hc
  have hwm : IntKind.i64.wrap (m + 1) = m + 1 := wrap64 (by omega) (by omega)
  have hm1 : (0 : Int) ≤ m + 1 := by omega
  have hroom : (m + 1).toNat ≤ roomA := by unfold roomA; omega
  have hz := cntP_0 (fun k => bitW q (k : Int) == 1) m x
  refine is.go hm hΓ k_l4Of o_l4Of (by simp [a_l4Of]) ?_
  simp only [a_l4Of, hwm, hm1, hroom, ints_rep, hz, List.zipIdx_cons, List.zipIdx_nil, ↓SP, SQ, Gam.add, stepM, callC, argC, lendO, nmBy, nmC, likeL, likeB, plainOb, offs, exL, X, F, trP, trO, stepD, stepW, newA, SV.tr, SV.trL, fz, allP, Ob.tr, loadA, cellsA, SV.cells, binA, binI, eqOut, isSl, isPt, natOf, callee, snap, SV.refsL, SV.refs, thaw, fzAll, loA, hiA, elemOf, partsA, buildA, putCells, ↓reduceIte, reduceCtorEq, okCell, Nat.reduceAdd, Nat.reduceEqDiff, Nat.reduceSub, Nat.reduceMul, Nat.reduceLeDiff, Nat.reduceLT, Nat.reduceBEq, PV.scal, PV.scalL, SV.scal, SV.scalL, Ob.scal, PV.isCell, pure', resO]
  obtain ⟨p, hpd⟩ : ∃ p, (fun k : Nat => bitW q (k : Int) == 1) = p := ⟨_, rfl⟩
  have hpe : ∀ k : Nat, (bitW q (k : Int) == 1) = p k := fun k => by rw [← hpd]
  simp only [hpd]
  refine loop_at (fun s : Nat × SV × SV => mkEnv [(0, .p (.agg [.sl 1 (ints x), .int .i64 m])), (1, si q), (2, .bx 2 0), (4, .p .nilsl), (5, .ar 10), (6, si s.1), (15, s.2.1), (30, s.2.2)]) (fun s => mkO [(2, some (.box [.p (.sl 1 (ints x)), si m])), (10, some (.arr 1 (ints (cntP p m x s.1))))]) (fun s => s.1 ≤ x.length) (fun s => x.length - s.1) (0, .junk, .junk) (by simp) rfl rfl ?_
  rintro ⟨i, c1, c2⟩ hi R hR hN
  simp only at hi
  by_cases h : i < x.length
  · have h1 : (i : Int) < x.length := by omega
    have hi0 : (0 : Int) ≤ (i : Int) := by omega
    have hn0 : ¬ (i : Int) < 0 := by omega
    have hw := wrap_one (i := i) (by omega)
    have hg := ints_get h
    have hxi := hx i h
    by_cases h0 : 0 ≤ x.getD i 0
    · have h0' : x.getD i 0 ≥ 0 := h0
      cases hp : p i with
      | true =>
        have hcl := cntP_len p m x i
        have hlt : (x.getD i 0).toNat < (m + 1).toNat := by omega
        have hge := ints_get (l := cntP p m x i) (i := (x.getD i 0).toNat) (by rw [hcl]; exact hlt)
        have hb := cntP_bd (p := p) (m := m) (x := x) (i := i) (j := (x.getD i 0).toNat)
        have hw1 : IntKind.i64.wrap ((cntP p m x i).getD (x.getD i 0).toNat 0 + 1) = (cntP p m x i).getD (x.getD i 0).toNat 0 + 1 := wrap64 (by omega) (by omega)
        have hset := cntP_hit (p := p) (i := i) hp h0 hxi.2
        simp only [h1, hi0, hw, hg, h0, h0', hn0, bitA_and, bitW_nat, hpe, hp, hcl, hlt, hge, hw1, hset, ints_len, ints_set, ↓SP, SQ, Gam.add, stepM, callC, argC, lendO, nmBy, nmC, likeL, likeB, plainOb, offs, exL, X, F, trP, trO, stepD, stepW, newA, SV.tr, SV.trL, fz, allP, Ob.tr, loadA, cellsA, SV.cells, binA, binI, eqOut, isSl, isPt, natOf, callee, snap, SV.refsL, SV.refs, thaw, fzAll, loA, hiA, elemOf, partsA, buildA, putCells, ↓reduceIte, reduceCtorEq, okCell, Nat.reduceAdd, Nat.reduceEqDiff, Nat.reduceSub, Nat.reduceMul, Nat.reduceLeDiff, Nat.reduceLT, Nat.reduceBEq, PV.scal, PV.scalL, SV.scal, SV.scalL, Ob.scal, PV.isCell, pure', resO]
        exact hN (i + 1, _, _) _ _ (by simp only; omega) (by simp only; omega) rfl rfl
      | false =>
        have hmi := cntP_miss (p := p) (m := m) (x := x) (i := i) (.inl hp)
        simp only [h1, hi0, hw, hg, h0, h0', hn0, bitA_and, bitW_nat, hpe, hp, ints_len, ↓SP, SQ, Gam.add, stepM, callC, argC, lendO, nmBy, nmC, likeL, likeB, plainOb, offs, exL, X, F, trP, trO, stepD, stepW, newA, SV.tr, SV.trL, fz, allP, Ob.tr, loadA, cellsA, SV.cells, binA, binI, eqOut, isSl, isPt, natOf, callee, snap, SV.refsL, SV.refs, thaw, fzAll, loA, hiA, elemOf, partsA, buildA, putCells, ↓reduceIte, reduceCtorEq, okCell, Nat.reduceAdd, Nat.reduceEqDiff, Nat.reduceSub, Nat.reduceMul, Nat.reduceLeDiff, Nat.reduceLT, Nat.reduceBEq, PV.scal, PV.scalL, SV.scal, SV.scalL, Ob.scal, PV.isCell, pure', resO]
        exact hN (i + 1, _, _) _ _ (by simp only; omega) (by simp only; omega) rfl (by rw [hmi])
    · have h0' : ¬ x.getD i 0 ≥ 0 := h0
      have hmi := cntP_miss (p := p) (m := m) (i := i) (.inr h0)
      simp only [h1, hw, hg, h0', ints_len, ↓SP, SQ, Gam.add, stepM, callC, argC, lendO, nmBy, nmC, likeL, likeB, plainOb, offs, exL, X, F, trP, trO, stepD, stepW, newA, SV.tr, SV.trL, fz, allP, Ob.tr, loadA, cellsA, SV.cells, binA, binI, eqOut, isSl, isPt, natOf, callee, snap, SV.refsL, SV.refs, thaw, fzAll, loA, hiA, elemOf, partsA, buildA, putCells, ↓reduceIte, reduceCtorEq, okCell, Nat.reduceAdd, Nat.reduceEqDiff, Nat.reduceSub, Nat.reduceMul, Nat.reduceLeDiff, Nat.reduceLT, Nat.reduceBEq, PV.scal, PV.scalL, SV.scal, SV.scalL, Ob.scal, PV.isCell, pure', resO]
      exact hN (i + 1, _, _) _ _ (by simp only; omega) (by simp only; omega) rfl (by rw [hmi])
  · have he : i = x.length := by omega
    have h1 : ¬ (i : Int) < x.length := by omega
    simp only [h1, ints_len, ↓SP, SQ, Gam.add, stepM, callC, argC, lendO, nmBy, nmC, likeL, likeB, plainOb, offs, exL, X, F, trP, trO, stepD, stepW, newA, SV.tr, SV.trL, fz, allP, Ob.tr, loadA, cellsA, SV.cells, binA, binI, eqOut, isSl, isPt, natOf, callee, snap, SV.refsL, SV.refs, thaw, fzAll, loA, hiA, elemOf, partsA, buildA, putCells, ↓reduceIte, reduceCtorEq, okCell, Nat.reduceAdd, Nat.reduceEqDiff, Nat.reduceSub, Nat.reduceMul, Nat.reduceLeDiff, Nat.reduceLT, Nat.reduceBEq, PV.scal, PV.scalL, SV.scal, SV.scalL, Ob.scal, PV.isCell, pure', resO]
    refine hR _ _ _ (by intro h; cases h) ?_
    simp only [↓SP, SQ, Gam.add, stepM, callC, argC, lendO, nmBy, nmC, likeL, likeB, plainOb, offs, exL, X, F, trP, trO, stepD, stepW, newA, SV.tr, SV.trL, fz, allP, Ob.tr, loadA, cellsA, SV.cells, binA, binI, eqOut, isSl, isPt, natOf, callee, snap, SV.refsL, SV.refs, thaw, fzAll, loA, hiA, elemOf, partsA, buildA, putCells, ↓reduceIte, reduceCtorEq, okCell, Nat.reduceAdd, Nat.reduceEqDiff, Nat.reduceSub, Nat.reduceMul, Nat.reduceLeDiff, Nat.reduceLT, Nat.reduceBEq, PV.scal, PV.scalL, SV.scal, SV.scalL, Ob.scal, PV.isCell, pure', resO]
    subst he
    subst hpd
    refine finA_gen [10] trivial (by simp [retA, rvA, List.mapM_cons, List.mapM_nil, Option.pure_def, Option.bind_eq_bind, Option.bind_some, Option.map_some, mkE_cons, mk_nil, mkO_cons, mkO_nil, loadA, ↓reduceIte, List.take_succ_cons, List.take_zero, List.drop_zero, List.drop_succ_cons, List.length_cons, List.length_nil, Nat.reduceAdd, Nat.reduceEqDiff, Nat.reduceLeDiff, Nat.zero_add, Nat.le_refl, reduceCtorEq, SV.tr, SV.trL, nmF, rn_nil, rn_cons1, rn_cons2, List.map_cons, List.map_nil, List.all_cons, List.all_nil, plainOb, SV.refsL, SV.refs, Ob.refs, X, F, List.range_succ, List.range_zero, List.nil_append, List.cons_append, List.isEmpty_nil, decide_true, Nat.reduceLT, Bool.and_self, Bool.and_true, and_self, and_true, List.getElem?_cons_zero, List.getElem?_cons_succ, List.nodup_cons, List.nodup_nil, List.mem_cons, List.not_mem_nil, not_false_eq_true, or_false, List.append_nil, mkO, setO_mk, List.mem_singleton]; rfl) ?_ ?_ ?_ ?_ ?_ ?_ ?_ <;> simp [spQ, retA, rvA, List.mapM_cons, List.mapM_nil, Option.pure_def, Option.bind_eq_bind, Option.bind_some, Option.map_some, mkE_cons, mk_nil, mkO_cons, mkO_nil, loadA, ↓reduceIte, List.take_succ_cons, List.take_zero, List.drop_zero, List.drop_succ_cons, List.length_cons, List.length_nil, Nat.reduceAdd, Nat.reduceEqDiff, Nat.reduceLeDiff, Nat.zero_add, Nat.le_refl, reduceCtorEq, SV.tr, SV.trL, nmF, rn_nil, rn_cons1, rn_cons2, List.map_cons, List.map_nil, List.all_cons, List.all_nil, plainOb, SV.refsL, SV.refs, Ob.refs, X, F, List.range_succ, List.range_zero, List.nil_append, List.cons_append, List.isEmpty_nil, decide_true, Nat.reduceLT, Bool.and_self, Bool.and_true, and_self, and_true, List.getElem?_cons_zero, List.getElem?_cons_succ, List.nodup_cons, List.nodup_nil, List.mem_cons, List.not_mem_nil, not_false_eq_true, or_false, List.append_nil, mkO, setO_mk, List.mem_singleton]
def qOK (x : List Int) (m q : Int) : Bool := isSt x m && isQ x.length q && decide ((opens x).length ≤ 8) && snOK (cntL m x) (spQ m x q)
def a_QuestionNeed (f_IsState : FuncId) (f_isQuestion : FuncId) (f_opened : FuncId) (f_countsS : FuncId) (f_splitS : FuncId) (f_SplitNeed : FuncId) : AFn := ⟨2, 
  .seq (.reg [⟨some 2, none, .w (.box 2 (.t 0))⟩,
    ⟨some 4, none, .d (.mv (.c (.int .i64 0)))⟩,
    ⟨some 5, none, .d (.mv (.c (.bool false)))⟩])
  (.seq (.seq (.reg [⟨some 6, none, .d (.load true 2 (.t 2))⟩,
    ⟨some 7, none, .d (.call (.f f_IsState) [(.t 6)])⟩,
    ⟨some 8, none, .d (.not (.t 7))⟩,
    ⟨some 9, none, .d (.mv (.t 8))⟩,
    ⟨some 10, some (9, false), .d (.fa 0 (.t 2))⟩,
    ⟨some 11, some (9, false), .d (.load false 1 (.t 10))⟩,
    ⟨some 12, some (9, false), .d (.len (.t 11))⟩,
    ⟨some 13, some (9, false), .d (.mv (.t 1))⟩,
    ⟨some 14, some (9, false), .d (.call (.f f_isQuestion) [(.t 12), (.t 13)])⟩,
    ⟨some 15, some (9, false), .d (.not (.t 14))⟩,
    ⟨some 16, none, .d (.pick (.t 9) (.c (.bool true)) (.t 15))⟩,
    ⟨some 17, none, .d (.mv (.t 16))⟩,
    ⟨some 18, some (17, false), .d (.load true 2 (.t 2))⟩,
    ⟨some 19, some (17, false), .d (.call (.f f_opened) [(.t 18)])⟩,
    ⟨some 20, some (17, false), .d (.len (.t 19))⟩,
    ⟨some 21, some (17, false), .d (.bin .arith .gtr (.t 20) (.c (.int .i64 8)))⟩,
    ⟨some 22, none, .d (.pick (.t 17) (.c (.bool true)) (.t 21))⟩])
  (.cond (.t 22) (.seq (.reg [⟨some 4, none, .d (.mv (.c (.int .i64 0)))⟩,
     ⟨some 5, none, .d (.mv (.c (.bool false)))⟩])
   (.ret)) (.skip)))
  (.seq (.dreg [] [([], ⟨some 23, none, .d (.load true 2 (.t 2))⟩),
    ([], ⟨some 24, none, .d (.call (.f f_countsS) [(.t 23)])⟩),
    ([], ⟨some 25, none, .d (.load true 2 (.t 2))⟩),
    ([], ⟨some 26, none, .d (.mv (.t 1))⟩),
    ([], ⟨some 27, none, .d (.call (.f f_splitS) [(.t 25), (.t 26)])⟩),
    ([], ⟨some 28, none, .d (.call (.f f_SplitNeed) [(.t 24), (.t 27)])⟩),
    ([], ⟨some 29, none, .d (.extract (.t 28) 0)⟩),
    ([], ⟨some 30, none, .d (.extract (.t 28) 1)⟩)] [⟨some 4, none, .d (.mv (.t 29))⟩,
    ⟨some 5, none, .d (.mv (.t 30))⟩])
  (.ret))), [.tmp 4, .tmp 5]⟩
def n_QuestionNeed : Nat → Option Ann := fun _ => none
abbrev k_QuestionNeed : List Nat := [0, 1, 2, 4, 5, 22]
abbrev o_QuestionNeed : List Nat := [2]
def a_s_QuestionNeed (f_l2State : FuncId) (f_l2Question : FuncId) (f_l2Open : FuncId) (f_l1In : FuncId) (f_l2Counts : FuncId) (f_l4Of : FuncId) (f_l4Needs : FuncId) (f_l4SplitNeed : FuncId) (f_l1Most : FuncId) : AFn := ⟨2, 
  .seq (.reg [⟨some 2, none, .w (.box 2 (.t 0))⟩,
    ⟨some 4, none, .d (.mv (.c (.int .i64 0)))⟩,
    ⟨some 5, none, .d (.mv (.c (.bool false)))⟩])
  (.seq (.seq (.reg [⟨some 8, none, .d (.load true 2 (.t 2))⟩,
    ⟨some 9, none, .d (.call (.f f_l2State) [(.t 8)])⟩,
    ⟨some 10, none, .d (.not (.t 9))⟩,
    ⟨some 11, none, .d (.mv (.t 10))⟩,
    ⟨some 12, some (11, false), .d (.load true 2 (.t 2))⟩,
    ⟨some 13, some (11, false), .d (.mv (.t 1))⟩,
    ⟨some 14, some (11, false), .d (.call (.f f_l2Question) [(.t 12), (.t 13)])⟩,
    ⟨some 15, some (11, false), .d (.not (.t 14))⟩,
    ⟨some 16, none, .d (.pick (.t 11) (.c (.bool true)) (.t 15))⟩,
    ⟨some 17, none, .d (.mv (.t 16))⟩,
    ⟨some 18, some (17, false), .d (.load true 2 (.t 2))⟩,
    ⟨some 19, some (17, false), .d (.call (.f f_l2Open) [(.t 18)])⟩,
    ⟨some 20, some (17, false), .d (.len (.t 19))⟩,
    ⟨some 21, some (17, false), .d (.call (.f f_l1In) [(.t 20), (.c (.int .i64 2)), (.c (.int .i64 8))])⟩,
    ⟨some 22, some (17, false), .d (.not (.t 21))⟩,
    ⟨some 23, none, .d (.pick (.t 17) (.c (.bool true)) (.t 22))⟩])
  (.cond (.t 23) (.seq (.reg [⟨some 4, none, .d (.mv (.c (.int .i64 0)))⟩,
     ⟨some 5, none, .d (.mv (.c (.bool false)))⟩])
   (.ret)) (.skip)))
  (.seq (.reg [⟨some 24, none, .d (.load true 2 (.t 2))⟩,
    ⟨some 25, none, .d (.call (.f f_l2Counts) [(.t 24)])⟩,
    ⟨some 6, none, .d (.mv (.t 25))⟩])
  (.seq (.reg [⟨some 26, none, .d (.mv (.t 6))⟩,
    ⟨some 27, none, .d (.load true 2 (.t 2))⟩,
    ⟨some 28, none, .d (.mv (.t 1))⟩,
    ⟨some 29, none, .d (.call (.f f_l4Of) [(.t 27), (.t 28)])⟩,
    ⟨some 30, none, .d (.mv (.t 6))⟩,
    ⟨some 31, none, .d (.len (.t 30))⟩,
    ⟨some 32, none, .d (.call (.f f_l4Needs) [(.t 31)])⟩,
    ⟨some 33, none, .d (.call (.f f_l4SplitNeed) [(.t 26), (.t 29), (.t 32)])⟩,
    ⟨some 7, none, .d (.mv (.t 33))⟩])
  (.seq (.reg [⟨some 34, none, .d (.mv (.t 7))⟩,
    ⟨some 35, none, .d (.call (.f f_l1Most) [(.t 34), (.c (.int .i64 0))])⟩,
    ⟨some 36, none, .d (.mv (.t 7))⟩,
    ⟨some 37, none, .d (.bin .arith .geq (.t 36) (.c (.int .i64 0)))⟩,
    ⟨some 4, none, .d (.mv (.t 35))⟩,
    ⟨some 5, none, .d (.mv (.t 37))⟩])
  (.ret))))), [.tmp 4, .tmp 5]⟩
def n_s_QuestionNeed : Nat → Option Ann := fun _ => none
abbrev k_s_QuestionNeed : List Nat := [0, 1, 2, 4, 5, 6, 7, 23]
abbrev o_s_QuestionNeed : List Nat := [2]
def c_QuestionNeed : Con := pure' fun
  | [.p (.agg [.sl 1 x_, .int .i64 m]), .p (.int .i64 q)] => if isI x_ = true ∧ ((ofI x_).length ≤ 1100000) then some (.tp [.p (.int .i64 (if qOK (ofI x_) m q = true then snV (cntL m (ofI x_)) (spQ m (ofI x_) q) else 0)), .p (.bool (qOK (ofI x_) m q))], []) else none
  | _ => none
theorem s_QuestionNeed {P : Program} (hm : P.follows .mixedOrders = true) {Γ : Gam} (hΓ : GS P Γ) {n : FuncId} {f_IsState : FuncId} {f_isQuestion : FuncId} {f_opened : FuncId} {f_countsS : FuncId} {f_splitS : FuncId} {f_SplitNeed : FuncId} (is : Is P n (a_QuestionNeed f_IsState f_isQuestion f_opened f_countsS f_splitS f_SplitNeed)) (h_IsState : Γ f_IsState = c_IsState) (h_isQuestion : Γ f_isQuestion = c_isQuestion) (h_opened : Γ f_opened = c_l2Open) (h_countsS : Γ f_countsS = c_countsS) (h_splitS : Γ f_splitS = c_splitS) (h_SplitNeed : Γ f_SplitNeed = c_SplitNeed)  : Says P n c_QuestionNeed := by
  refine Says.pure fun args r fs h => ?_
  split at h
  case h_2 => cases h
  rename_i x_ m q
  split at h
  case isFalse => cases h
  rename_i hc
  obtain ⟨hx_, hc⟩ := hc
  obtain ⟨x, rfl⟩ := isI_out hx_
  simp only [ofI_ints, ofBo_bools, ofAs_asks, Option.some.injEq, Prod.mk.injEq] at h hc
  obtain ⟨rfl, rfl⟩ := h
  cases h1 : isSt x m with
  | false =>
    have hp : qOK x m q = false := by simp only [qOK, h1, Bool.false_and]
    refine is.go hm hΓ k_QuestionNeed o_QuestionNeed (by simp [a_QuestionNeed]) ?_
    simp only [a_QuestionNeed, h_IsState, c_IsState, h_isQuestion, c_isQuestion, h_opened, c_l2Open, h_countsS, c_countsS, h_splitS, c_splitS, h_SplitNeed, c_SplitNeed, hc, h1, hp, Bool.false_eq_true, List.zipIdx_cons, List.zipIdx_nil, ↓SP, SQ, Gam.add, stepM, callC, argC, lendO, nmBy, nmC, likeL, likeB, plainOb, offs, exL, X, F, trP, trO, stepD, stepW, newA, SV.tr, SV.trL, fz, allP, Ob.tr, loadA, cellsA, SV.cells, binA, binI, eqOut, isSl, isPt, natOf, callee, snap, SV.refsL, SV.refs, thaw, fzAll, loA, hiA, elemOf, partsA, buildA, putCells, ↓reduceIte, reduceCtorEq, okCell, Nat.reduceAdd, Nat.reduceEqDiff, Nat.reduceSub, Nat.reduceMul, Nat.reduceLeDiff, Nat.reduceLT, Nat.reduceBEq, PV.scal, PV.scalL, SV.scal, SV.scalL, Ob.scal, PV.isCell, pure', resO]
    exact finA_val (by simp [retA, rvA, List.mapM_cons, List.mapM_nil, Option.pure_def, Option.bind_eq_bind, Option.bind_some, Option.map_some, mkE_cons, mk_nil, mkO_cons, mkO_nil, loadA, ↓reduceIte, List.take_succ_cons, List.take_zero, List.drop_zero, List.drop_succ_cons, List.length_cons, List.length_nil, Nat.reduceAdd, Nat.reduceEqDiff, Nat.reduceLeDiff, Nat.zero_add, Nat.le_refl, reduceCtorEq, SV.tr, SV.trL, nmF, rn_nil, rn_cons1, rn_cons2, List.map_cons, List.map_nil, List.all_cons, List.all_nil, plainOb, SV.refsL, SV.refs, Ob.refs, X, F, List.range_succ, List.range_zero, List.nil_append, List.cons_append, List.isEmpty_nil, decide_true, Nat.reduceLT, Bool.and_self, Bool.and_true, and_self, and_true, List.getElem?_cons_zero, List.getElem?_cons_succ, List.nodup_cons, List.nodup_nil, List.mem_cons, List.not_mem_nil, not_false_eq_true, or_false, List.append_nil, mkO, setO_mk, List.mem_singleton]) (by simp [SV.tr, SV.trL])
  | true =>
    cases h2 : isQ x.length q with
    | false =>
      have hp : qOK x m q = false := by simp only [qOK, h2, Bool.and_false, Bool.false_and]
      refine is.go hm hΓ k_QuestionNeed o_QuestionNeed (by simp [a_QuestionNeed]) ?_
      simp only [a_QuestionNeed, h_IsState, c_IsState, h_isQuestion, c_isQuestion, h_opened, c_l2Open, h_countsS, c_countsS, h_splitS, c_splitS, h_SplitNeed, c_SplitNeed, hc, h1, h2, hp, ints_len, Bool.false_eq_true, List.zipIdx_cons, List.zipIdx_nil, ↓SP, SQ, Gam.add, stepM, callC, argC, lendO, nmBy, nmC, likeL, likeB, plainOb, offs, exL, X, F, trP, trO, stepD, stepW, newA, SV.tr, SV.trL, fz, allP, Ob.tr, loadA, cellsA, SV.cells, binA, binI, eqOut, isSl, isPt, natOf, callee, snap, SV.refsL, SV.refs, thaw, fzAll, loA, hiA, elemOf, partsA, buildA, putCells, ↓reduceIte, reduceCtorEq, okCell, Nat.reduceAdd, Nat.reduceEqDiff, Nat.reduceSub, Nat.reduceMul, Nat.reduceLeDiff, Nat.reduceLT, Nat.reduceBEq, PV.scal, PV.scalL, SV.scal, SV.scalL, Ob.scal, PV.isCell, pure', resO]
      exact finA_val (by simp [retA, rvA, List.mapM_cons, List.mapM_nil, Option.pure_def, Option.bind_eq_bind, Option.bind_some, Option.map_some, mkE_cons, mk_nil, mkO_cons, mkO_nil, loadA, ↓reduceIte, List.take_succ_cons, List.take_zero, List.drop_zero, List.drop_succ_cons, List.length_cons, List.length_nil, Nat.reduceAdd, Nat.reduceEqDiff, Nat.reduceLeDiff, Nat.zero_add, Nat.le_refl, reduceCtorEq, SV.tr, SV.trL, nmF, rn_nil, rn_cons1, rn_cons2, List.map_cons, List.map_nil, List.all_cons, List.all_nil, plainOb, SV.refsL, SV.refs, Ob.refs, X, F, List.range_succ, List.range_zero, List.nil_append, List.cons_append, List.isEmpty_nil, decide_true, Nat.reduceLT, Bool.and_self, Bool.and_true, and_self, and_true, List.getElem?_cons_zero, List.getElem?_cons_succ, List.nodup_cons, List.nodup_nil, List.mem_cons, List.not_mem_nil, not_false_eq_true, or_false, List.append_nil, mkO, setO_mk, List.mem_singleton]) (by simp [SV.tr, SV.trL])
    | true =>
      by_cases h3 : (opens x).length ≤ 8
      · have h3' : ¬ ((opens x).length : Int) > 8 := by omega
        have hp : qOK x m q = snOK (cntL m x) (spQ m x q) := by simp only [qOK, h1, h2, dec_t h3, Bool.true_and]
        have hcl : (cntL m x).length ≤ 1100000 := by have := (cnt_okC h1 h3).2.2; have := (st_out h1).2.1; omega
        have hsl : (spQ m x q).length ≤ 1100000 := by rw [spQ, cntP_len]; have := (st_out h1).2.1; omega
        refine is.go hm hΓ k_QuestionNeed o_QuestionNeed (by simp [a_QuestionNeed]) ?_
        simp only [a_QuestionNeed, h_IsState, c_IsState, h_isQuestion, c_isQuestion, h_opened, c_l2Open, h_countsS, c_countsS, h_splitS, c_splitS, h_SplitNeed, c_SplitNeed, hc, h1, h2, h3', hcl, hsl, ints_len, isI_ints, ofI_ints, List.zipIdx_cons, List.zipIdx_nil, ↓SP, SQ, Gam.add, stepM, callC, argC, lendO, nmBy, nmC, likeL, likeB, plainOb, offs, exL, X, F, trP, trO, stepD, stepW, newA, SV.tr, SV.trL, fz, allP, Ob.tr, loadA, cellsA, SV.cells, binA, binI, eqOut, isSl, isPt, natOf, callee, snap, SV.refsL, SV.refs, thaw, fzAll, loA, hiA, elemOf, partsA, buildA, putCells, ↓reduceIte, reduceCtorEq, okCell, Nat.reduceAdd, Nat.reduceEqDiff, Nat.reduceSub, Nat.reduceMul, Nat.reduceLeDiff, Nat.reduceLT, Nat.reduceBEq, PV.scal, PV.scalL, SV.scal, SV.scalL, Ob.scal, PV.isCell, pure', resO]
        exact finA_val (by simp [hp, retA, rvA, List.mapM_cons, List.mapM_nil, Option.pure_def, Option.bind_eq_bind, Option.bind_some, Option.map_some, mkE_cons, mk_nil, mkO_cons, mkO_nil, loadA, ↓reduceIte, List.take_succ_cons, List.take_zero, List.drop_zero, List.drop_succ_cons, List.length_cons, List.length_nil, Nat.reduceAdd, Nat.reduceEqDiff, Nat.reduceLeDiff, Nat.zero_add, Nat.le_refl, reduceCtorEq, SV.tr, SV.trL, nmF, rn_nil, rn_cons1, rn_cons2, List.map_cons, List.map_nil, List.all_cons, List.all_nil, plainOb, SV.refsL, SV.refs, Ob.refs, X, F, List.range_succ, List.range_zero, List.nil_append, List.cons_append, List.isEmpty_nil, decide_true, Nat.reduceLT, Bool.and_self, Bool.and_true, and_self, and_true, List.getElem?_cons_zero, List.getElem?_cons_succ, List.nodup_cons, List.nodup_nil, List.mem_cons, List.not_mem_nil, not_false_eq_true, or_false, List.append_nil, mkO, setO_mk, List.mem_singleton]) (by simp [SV.tr, SV.trL])
      · have h3' : ((opens x).length : Int) > 8 := by omega
        have hp : qOK x m q = false := by simp only [qOK, dec_f h3, Bool.and_false, Bool.false_and]
        refine is.go hm hΓ k_QuestionNeed o_QuestionNeed (by simp [a_QuestionNeed]) ?_
        simp only [a_QuestionNeed, h_IsState, c_IsState, h_isQuestion, c_isQuestion, h_opened, c_l2Open, h_countsS, c_countsS, h_splitS, c_splitS, h_SplitNeed, c_SplitNeed, hc, h1, h2, h3', hp, ints_len, Bool.false_eq_true, List.zipIdx_cons, List.zipIdx_nil, ↓SP, SQ, Gam.add, stepM, callC, argC, lendO, nmBy, nmC, likeL, likeB, plainOb, offs, exL, X, F, trP, trO, stepD, stepW, newA, SV.tr, SV.trL, fz, allP, Ob.tr, loadA, cellsA, SV.cells, binA, binI, eqOut, isSl, isPt, natOf, callee, snap, SV.refsL, SV.refs, thaw, fzAll, loA, hiA, elemOf, partsA, buildA, putCells, ↓reduceIte, reduceCtorEq, okCell, Nat.reduceAdd, Nat.reduceEqDiff, Nat.reduceSub, Nat.reduceMul, Nat.reduceLeDiff, Nat.reduceLT, Nat.reduceBEq, PV.scal, PV.scalL, SV.scal, SV.scalL, Ob.scal, PV.isCell, pure', resO]
        exact finA_val (by simp [retA, rvA, List.mapM_cons, List.mapM_nil, Option.pure_def, Option.bind_eq_bind, Option.bind_some, Option.map_some, mkE_cons, mk_nil, mkO_cons, mkO_nil, loadA, ↓reduceIte, List.take_succ_cons, List.take_zero, List.drop_zero, List.drop_succ_cons, List.length_cons, List.length_nil, Nat.reduceAdd, Nat.reduceEqDiff, Nat.reduceLeDiff, Nat.zero_add, Nat.le_refl, reduceCtorEq, SV.tr, SV.trL, nmF, rn_nil, rn_cons1, rn_cons2, List.map_cons, List.map_nil, List.all_cons, List.all_nil, plainOb, SV.refsL, SV.refs, Ob.refs, X, F, List.range_succ, List.range_zero, List.nil_append, List.cons_append, List.isEmpty_nil, decide_true, Nat.reduceLT, Bool.and_self, Bool.and_true, and_self, and_true, List.getElem?_cons_zero, List.getElem?_cons_succ, List.nodup_cons, List.nodup_nil, List.mem_cons, List.not_mem_nil, not_false_eq_true, or_false, List.append_nil, mkO, setO_mk, List.mem_singleton]) (by simp [SV.tr, SV.trL])
theorem snV_pos {c s : List Int} (hc : okC c = true) (hu : told c = false) (hs : s ∈ splL c) : 1 ≤ snV c s :=
  (snV_bd hc hu hs).1
theorem s_s_QuestionNeed {P : Program} (hm : P.follows .mixedOrders = true) {Γ : Gam} (hΓ : GS P Γ) {n : FuncId} {f_l2State : FuncId} {f_l2Question : FuncId} {f_l2Open : FuncId} {f_l1In : FuncId} {f_l2Counts : FuncId} {f_l4Of : FuncId} {f_l4Needs : FuncId} {f_l4SplitNeed : FuncId} {f_l1Most : FuncId} (is : Is P n (a_s_QuestionNeed f_l2State f_l2Question f_l2Open f_l1In f_l2Counts f_l4Of f_l4Needs f_l4SplitNeed f_l1Most)) (h_l2State : Γ f_l2State = c_IsState) (h_l2Question : Γ f_l2Question = c_l2Question) (h_l2Open : Γ f_l2Open = c_l2Open) (h_l1In : Γ f_l1In = c_in) (h_l2Counts : Γ f_l2Counts = c_countsS) (h_l4Of : Γ f_l4Of = c_splitS) (h_l4Needs : Γ f_l4Needs = c_l4Needs) (h_l4SplitNeed : Γ f_l4SplitNeed = c_l4SplitNeed) (h_l1Most : Γ f_l1Most = c_l1Most)  : Says P n c_QuestionNeed := by
  refine Says.pure fun args r fs h => ?_
  split at h
  case h_2 => cases h
  rename_i x_ m q
  split at h
  case isFalse => cases h
  rename_i hc
  obtain ⟨hx_, hc⟩ := hc
  obtain ⟨x, rfl⟩ := isI_out hx_
  simp only [ofI_ints, ofBo_bools, ofAs_asks, Option.some.injEq, Prod.mk.injEq] at h hc
  obtain ⟨rfl, rfl⟩ := h
  cases h1 : isSt x m with
  | false =>
    have hp : qOK x m q = false := by simp only [qOK, h1, Bool.false_and]
    refine is.go hm hΓ k_s_QuestionNeed o_s_QuestionNeed (by simp [a_s_QuestionNeed]) ?_
    simp only [a_s_QuestionNeed, h_l2State, c_IsState, h_l2Question, c_l2Question, h_l2Open, c_l2Open, h_l1In, c_in, h_l2Counts, c_countsS, h_l4Of, c_splitS, h_l4Needs, c_l4Needs, h_l4SplitNeed, c_l4SplitNeed, h_l1Most, c_l1Most, hc, h1, hp, Bool.false_eq_true, List.zipIdx_cons, List.zipIdx_nil, ↓SP, SQ, Gam.add, stepM, callC, argC, lendO, nmBy, nmC, likeL, likeB, plainOb, offs, exL, X, F, trP, trO, stepD, stepW, newA, SV.tr, SV.trL, fz, allP, Ob.tr, loadA, cellsA, SV.cells, binA, binI, eqOut, isSl, isPt, natOf, callee, snap, SV.refsL, SV.refs, thaw, fzAll, loA, hiA, elemOf, partsA, buildA, putCells, ↓reduceIte, reduceCtorEq, okCell, Nat.reduceAdd, Nat.reduceEqDiff, Nat.reduceSub, Nat.reduceMul, Nat.reduceLeDiff, Nat.reduceLT, Nat.reduceBEq, PV.scal, PV.scalL, SV.scal, SV.scalL, Ob.scal, PV.isCell, pure', resO]
    exact finA_val (by simp [retA, rvA, List.mapM_cons, List.mapM_nil, Option.pure_def, Option.bind_eq_bind, Option.bind_some, Option.map_some, mkE_cons, mk_nil, mkO_cons, mkO_nil, loadA, ↓reduceIte, List.take_succ_cons, List.take_zero, List.drop_zero, List.drop_succ_cons, List.length_cons, List.length_nil, Nat.reduceAdd, Nat.reduceEqDiff, Nat.reduceLeDiff, Nat.zero_add, Nat.le_refl, reduceCtorEq, SV.tr, SV.trL, nmF, rn_nil, rn_cons1, rn_cons2, List.map_cons, List.map_nil, List.all_cons, List.all_nil, plainOb, SV.refsL, SV.refs, Ob.refs, X, F, List.range_succ, List.range_zero, List.nil_append, List.cons_append, List.isEmpty_nil, decide_true, Nat.reduceLT, Bool.and_self, Bool.and_true, and_self, and_true, List.getElem?_cons_zero, List.getElem?_cons_succ, List.nodup_cons, List.nodup_nil, List.mem_cons, List.not_mem_nil, not_false_eq_true, or_false, List.append_nil, mkO, setO_mk, List.mem_singleton]) (by simp [SV.tr, SV.trL])
  | true =>
    cases h2 : isQ x.length q with
    | false =>
      have hp : qOK x m q = false := by simp only [qOK, h2, Bool.and_false, Bool.false_and]
      refine is.go hm hΓ k_s_QuestionNeed o_s_QuestionNeed (by simp [a_s_QuestionNeed]) ?_
      simp only [a_s_QuestionNeed, h_l2State, c_IsState, h_l2Question, c_l2Question, h_l2Open, c_l2Open, h_l1In, c_in, h_l2Counts, c_countsS, h_l4Of, c_splitS, h_l4Needs, c_l4Needs, h_l4SplitNeed, c_l4SplitNeed, h_l1Most, c_l1Most, hc, h1, h2, hp, ints_len, Bool.false_eq_true, List.zipIdx_cons, List.zipIdx_nil, ↓SP, SQ, Gam.add, stepM, callC, argC, lendO, nmBy, nmC, likeL, likeB, plainOb, offs, exL, X, F, trP, trO, stepD, stepW, newA, SV.tr, SV.trL, fz, allP, Ob.tr, loadA, cellsA, SV.cells, binA, binI, eqOut, isSl, isPt, natOf, callee, snap, SV.refsL, SV.refs, thaw, fzAll, loA, hiA, elemOf, partsA, buildA, putCells, ↓reduceIte, reduceCtorEq, okCell, Nat.reduceAdd, Nat.reduceEqDiff, Nat.reduceSub, Nat.reduceMul, Nat.reduceLeDiff, Nat.reduceLT, Nat.reduceBEq, PV.scal, PV.scalL, SV.scal, SV.scalL, Ob.scal, PV.isCell, pure', resO]
      exact finA_val (by simp [retA, rvA, List.mapM_cons, List.mapM_nil, Option.pure_def, Option.bind_eq_bind, Option.bind_some, Option.map_some, mkE_cons, mk_nil, mkO_cons, mkO_nil, loadA, ↓reduceIte, List.take_succ_cons, List.take_zero, List.drop_zero, List.drop_succ_cons, List.length_cons, List.length_nil, Nat.reduceAdd, Nat.reduceEqDiff, Nat.reduceLeDiff, Nat.zero_add, Nat.le_refl, reduceCtorEq, SV.tr, SV.trL, nmF, rn_nil, rn_cons1, rn_cons2, List.map_cons, List.map_nil, List.all_cons, List.all_nil, plainOb, SV.refsL, SV.refs, Ob.refs, X, F, List.range_succ, List.range_zero, List.nil_append, List.cons_append, List.isEmpty_nil, decide_true, Nat.reduceLT, Bool.and_self, Bool.and_true, and_self, and_true, List.getElem?_cons_zero, List.getElem?_cons_succ, List.nodup_cons, List.nodup_nil, List.mem_cons, List.not_mem_nil, not_false_eq_true, or_false, List.append_nil, mkO, setO_mk, List.mem_singleton]) (by simp [SV.tr, SV.trL])
    | true =>
      cases h3 : (decide (2 ≤ ((opens x).length : Int)) && decide (((opens x).length : Int) ≤ 8)) with
      | false =>
        have hp : qOK x m q = false := by
          by_cases h8 : (opens x).length ≤ 8
          · have hs := (cnt_okC h1 h8).2.1
            have ht : told (cntL m x) = true := by
              simp only [told, hs, decide_eq_true_eq]
              simp only [Bool.and_eq_false_iff, decide_eq_false_iff_not] at h3
              omega
            simp only [qOK, snOK, ht, Bool.not_true, Bool.and_false, Bool.false_and]
          · simp only [qOK, dec_f h8, Bool.and_false, Bool.false_and]
        refine is.go hm hΓ k_s_QuestionNeed o_s_QuestionNeed (by simp [a_s_QuestionNeed]) ?_
        simp only [a_s_QuestionNeed, h_l2State, c_IsState, h_l2Question, c_l2Question, h_l2Open, c_l2Open, h_l1In, c_in, h_l2Counts, c_countsS, h_l4Of, c_splitS, h_l4Needs, c_l4Needs, h_l4SplitNeed, c_l4SplitNeed, h_l1Most, c_l1Most, hc, h1, h2, h3, hp, ints_len, Bool.false_eq_true, List.zipIdx_cons, List.zipIdx_nil, ↓SP, SQ, Gam.add, stepM, callC, argC, lendO, nmBy, nmC, likeL, likeB, plainOb, offs, exL, X, F, trP, trO, stepD, stepW, newA, SV.tr, SV.trL, fz, allP, Ob.tr, loadA, cellsA, SV.cells, binA, binI, eqOut, isSl, isPt, natOf, callee, snap, SV.refsL, SV.refs, thaw, fzAll, loA, hiA, elemOf, partsA, buildA, putCells, ↓reduceIte, reduceCtorEq, okCell, Nat.reduceAdd, Nat.reduceEqDiff, Nat.reduceSub, Nat.reduceMul, Nat.reduceLeDiff, Nat.reduceLT, Nat.reduceBEq, PV.scal, PV.scalL, SV.scal, SV.scalL, Ob.scal, PV.isCell, pure', resO]
        exact finA_val (by simp [retA, rvA, List.mapM_cons, List.mapM_nil, Option.pure_def, Option.bind_eq_bind, Option.bind_some, Option.map_some, mkE_cons, mk_nil, mkO_cons, mkO_nil, loadA, ↓reduceIte, List.take_succ_cons, List.take_zero, List.drop_zero, List.drop_succ_cons, List.length_cons, List.length_nil, Nat.reduceAdd, Nat.reduceEqDiff, Nat.reduceLeDiff, Nat.zero_add, Nat.le_refl, reduceCtorEq, SV.tr, SV.trL, nmF, rn_nil, rn_cons1, rn_cons2, List.map_cons, List.map_nil, List.all_cons, List.all_nil, plainOb, SV.refsL, SV.refs, Ob.refs, X, F, List.range_succ, List.range_zero, List.nil_append, List.cons_append, List.isEmpty_nil, decide_true, Nat.reduceLT, Bool.and_self, Bool.and_true, and_self, and_true, List.getElem?_cons_zero, List.getElem?_cons_succ, List.nodup_cons, List.nodup_nil, List.mem_cons, List.not_mem_nil, not_false_eq_true, or_false, List.append_nil, mkO, setO_mk, List.mem_singleton]) (by simp [SV.tr, SV.trL])
      | true =>
        have h3' : 2 ≤ ((opens x).length : Int) ∧ ((opens x).length : Int) ≤ 8 := by simpa using h3
        have h8 : (opens x).length ≤ 8 := by omega
        obtain ⟨hok, hs, hlen⟩ := cnt_okC h1 h8
        have hu : told (cntL m x) = false := by simp only [told, hs, decide_eq_false_iff_not]; omega
        have hsp := sp_ok (x := x) (m := m) q
        have hsm := mem_spl hsp
        obtain ⟨⟨l1, l3⟩, h8c, _⟩ := okC_out hok
        have l1' : (1 : Int) ≤ (cntL m x).length := by omega
        have l3' : ((cntL m x).length : Int) ≤ 3 := by omega
        have hokw := okw_of hok hu
        have htl := tabK_len (ntT tabB) (cntL m x).length 9
        have hbt := tabK_bd (nt := ntT tabB) (p := (cntL m x).length) (k := 9) (by omega)
        obtain ⟨ty, tn⟩ := tab_yn hok hu hsm
        have hsv : 1 + mxI (ndI true (yesL (cntL m x) (spQ m x q))) (ndI true (noL (cntL m x) (spQ m x q))) = snV (cntL m x) (spQ m x q) := rfl
        have hpos := snV_pos hok hu hsm
        have hp : qOK x m q = !backB (cntL m x) (spQ m x q) := by
          simp only [qOK, snOK, h1, h2, dec_t h8, hok, hu, hsp, Bool.true_and, Bool.not_false]; rfl
        cases hb : backB (cntL m x) (spQ m x q) with
        | false =>
          rw [hb] at hp
          have e1 : snV (cntL m x) (spQ m x q) > 0 := by omega
          have e2 : snV (cntL m x) (spQ m x q) ≥ 0 := by omega
          refine is.go hm hΓ k_s_QuestionNeed o_s_QuestionNeed (by simp [a_s_QuestionNeed]) ?_
          simp only [a_s_QuestionNeed, h_l2State, c_IsState, h_l2Question, c_l2Question, h_l2Open, c_l2Open, h_l1In, c_in, h_l2Counts, c_countsS, h_l4Of, c_splitS, h_l4Needs, c_l4Needs, h_l4SplitNeed, c_l4SplitNeed, h_l1Most, c_l1Most, hc, h1, h2, h3, hp, hokw, hsm, htl, hbt, ty, tn, hsv, hb, e1, e2, l1', l3', Int.toNat_natCast, ints_len, isI_ints, ofI_ints, Bool.not_false, Bool.false_eq_true, List.zipIdx_cons, List.zipIdx_nil, ↓SP, SQ, Gam.add, stepM, callC, argC, lendO, nmBy, nmC, likeL, likeB, plainOb, offs, exL, X, F, trP, trO, stepD, stepW, newA, SV.tr, SV.trL, fz, allP, Ob.tr, loadA, cellsA, SV.cells, binA, binI, eqOut, isSl, isPt, natOf, callee, snap, SV.refsL, SV.refs, thaw, fzAll, loA, hiA, elemOf, partsA, buildA, putCells, ↓reduceIte, reduceCtorEq, okCell, Nat.reduceAdd, Nat.reduceEqDiff, Nat.reduceSub, Nat.reduceMul, Nat.reduceLeDiff, Nat.reduceLT, Nat.reduceBEq, PV.scal, PV.scalL, SV.scal, SV.scalL, Ob.scal, PV.isCell, pure', resO]
          exact finA_val (by simp [retA, rvA, List.mapM_cons, List.mapM_nil, Option.pure_def, Option.bind_eq_bind, Option.bind_some, Option.map_some, mkE_cons, mk_nil, mkO_cons, mkO_nil, loadA, ↓reduceIte, List.take_succ_cons, List.take_zero, List.drop_zero, List.drop_succ_cons, List.length_cons, List.length_nil, Nat.reduceAdd, Nat.reduceEqDiff, Nat.reduceLeDiff, Nat.zero_add, Nat.le_refl, reduceCtorEq, SV.tr, SV.trL, nmF, rn_nil, rn_cons1, rn_cons2, List.map_cons, List.map_nil, List.all_cons, List.all_nil, plainOb, SV.refsL, SV.refs, Ob.refs, X, F, List.range_succ, List.range_zero, List.nil_append, List.cons_append, List.isEmpty_nil, decide_true, Nat.reduceLT, Bool.and_self, Bool.and_true, and_self, and_true, List.getElem?_cons_zero, List.getElem?_cons_succ, List.nodup_cons, List.nodup_nil, List.mem_cons, List.not_mem_nil, not_false_eq_true, or_false, List.append_nil, mkO, setO_mk, List.mem_singleton]) (by simp [SV.tr, SV.trL])
        | true =>
          rw [hb] at hp
          have e1 : ¬ (-1 : Int) > 0 := by omega
          have e2 : ¬ (-1 : Int) ≥ 0 := by omega
          refine is.go hm hΓ k_s_QuestionNeed o_s_QuestionNeed (by simp [a_s_QuestionNeed]) ?_
          simp only [a_s_QuestionNeed, h_l2State, c_IsState, h_l2Question, c_l2Question, h_l2Open, c_l2Open, h_l1In, c_in, h_l2Counts, c_countsS, h_l4Of, c_splitS, h_l4Needs, c_l4Needs, h_l4SplitNeed, c_l4SplitNeed, h_l1Most, c_l1Most, hc, h1, h2, h3, hp, hokw, hsm, htl, hbt, ty, tn, hsv, hb, e1, e2, l1', l3', Int.toNat_natCast, ints_len, isI_ints, ofI_ints, Bool.not_true, Bool.false_eq_true, List.zipIdx_cons, List.zipIdx_nil, ↓SP, SQ, Gam.add, stepM, callC, argC, lendO, nmBy, nmC, likeL, likeB, plainOb, offs, exL, X, F, trP, trO, stepD, stepW, newA, SV.tr, SV.trL, fz, allP, Ob.tr, loadA, cellsA, SV.cells, binA, binI, eqOut, isSl, isPt, natOf, callee, snap, SV.refsL, SV.refs, thaw, fzAll, loA, hiA, elemOf, partsA, buildA, putCells, ↓reduceIte, reduceCtorEq, okCell, Nat.reduceAdd, Nat.reduceEqDiff, Nat.reduceSub, Nat.reduceMul, Nat.reduceLeDiff, Nat.reduceLT, Nat.reduceBEq, PV.scal, PV.scalL, SV.scal, SV.scalL, Ob.scal, PV.isCell, pure', resO]
          exact finA_val (by simp [retA, rvA, List.mapM_cons, List.mapM_nil, Option.pure_def, Option.bind_eq_bind, Option.bind_some, Option.map_some, mkE_cons, mk_nil, mkO_cons, mkO_nil, loadA, ↓reduceIte, List.take_succ_cons, List.take_zero, List.drop_zero, List.drop_succ_cons, List.length_cons, List.length_nil, Nat.reduceAdd, Nat.reduceEqDiff, Nat.reduceLeDiff, Nat.zero_add, Nat.le_refl, reduceCtorEq, SV.tr, SV.trL, nmF, rn_nil, rn_cons1, rn_cons2, List.map_cons, List.map_nil, List.all_cons, List.all_nil, plainOb, SV.refsL, SV.refs, Ob.refs, X, F, List.range_succ, List.range_zero, List.nil_append, List.cons_append, List.isEmpty_nil, decide_true, Nat.reduceLT, Bool.and_self, Bool.and_true, and_self, and_true, List.getElem?_cons_zero, List.getElem?_cons_succ, List.nodup_cons, List.nodup_nil, List.mem_cons, List.not_mem_nil, not_false_eq_true, or_false, List.append_nil, mkO, setO_mk, List.mem_singleton]) (by simp [SV.tr, SV.trL])
def a_x_QuestionNeed (f_szState : FuncId) (f_toState : FuncId) (f_s_QuestionNeed : FuncId) (f_QuestionNeed : FuncId) (f_eqState : FuncId) : AFn := ⟨2, 
  .seq (.reg [⟨some 2, none, .w (.box 2 (.t 0))⟩,
    ⟨some 4, none, .d (.mv (.c (.bool false)))⟩])
  (.seq (.reg [⟨some 5, none, .d (.mv (.c (.int .i64 1048576)))⟩])
  (.seq (.reg [⟨some 11, none, .d (.load true 2 (.t 2))⟩,
    ⟨some 12, none, .d (.mv (.t 5))⟩,
    ⟨some 13, none, .d (.call (.f f_szState) [(.t 11), (.t 12)])⟩,
    ⟨some 5, none, .d (.mv (.t 13))⟩])
  (.seq (.seq (.reg [⟨some 14, none, .d (.mv (.t 5))⟩,
    ⟨some 15, none, .d (.bin .arith .lss (.t 14) (.c (.int .i64 0)))⟩])
  (.cond (.t 15) (.seq (.reg [⟨some 4, none, .d (.mv (.c (.bool true)))⟩])
   (.ret)) (.skip)))
  (.seq (.reg [⟨some 17, none, .d (.load true 2 (.t 2))⟩,
    ⟨some 18, none, .d (.call (.f f_toState) [(.t 17)])⟩,
    ⟨some 19, none, .d (.mv (.t 1))⟩,
    ⟨some 20, none, .d (.call (.f f_s_QuestionNeed) [(.t 18), (.t 19)])⟩,
    ⟨some 16, none, .d (.mv (.t 20))⟩,
    ⟨some 21, none, .d (.extract (.t 16) 0)⟩,
    ⟨some 22, none, .d (.extract (.t 16) 1)⟩,
    ⟨some 6, none, .d (.mv (.t 21))⟩,
    ⟨some 7, none, .d (.mv (.t 22))⟩])
  (.seq (.reg [⟨some 23, none, .d (.load true 2 (.t 2))⟩,
    ⟨some 24, none, .d (.call (.f f_toState) [(.t 23)])⟩,
    ⟨some 8, none, .w (.alloc [.nilsl, .int .i64 0])⟩,
    ⟨none, none, .w (.store 2 (.t 8) (.t 24))⟩])
  (.seq (.reg [⟨some 26, none, .d (.load true 2 (.t 8))⟩,
    ⟨some 27, none, .d (.mv (.t 1))⟩,
    ⟨some 28, none, .d (.call (.f f_QuestionNeed) [(.t 26), (.t 27)])⟩,
    ⟨some 25, none, .d (.mv (.t 28))⟩,
    ⟨some 29, none, .d (.extract (.t 25) 0)⟩,
    ⟨some 30, none, .d (.extract (.t 25) 1)⟩,
    ⟨some 9, none, .d (.mv (.t 29))⟩,
    ⟨some 10, none, .d (.mv (.t 30))⟩])
  (.seq (.seq (.reg [⟨some 31, none, .d (.mv (.t 9))⟩,
    ⟨some 32, none, .d (.mv (.t 6))⟩,
    ⟨some 33, none, .d (.bin .arith .neq (.t 31) (.t 32))⟩,
    ⟨some 34, none, .d (.mv (.t 33))⟩,
    ⟨some 35, some (34, false), .d (.mv (.t 10))⟩,
    ⟨some 36, some (34, false), .d (.mv (.t 7))⟩,
    ⟨some 37, some (34, false), .d (.bin .bool .neq (.t 35) (.t 36))⟩,
    ⟨some 38, none, .d (.pick (.t 34) (.c (.bool true)) (.t 37))⟩])
  (.cond (.t 38) (.seq (.reg [⟨some 4, none, .d (.mv (.c (.bool false)))⟩])
   (.ret)) (.skip)))
  (.seq (.seq (.dreg [] [([], ⟨some 39, none, .d (.load true 2 (.t 8))⟩),
    ([], ⟨some 40, none, .d (.load true 2 (.t 2))⟩),
    ([], ⟨some 41, none, .d (.call (.f f_toState) [(.t 40)])⟩)] [⟨some 42, none, .d (.call (.f f_eqState) [(.t 39), (.t 41)])⟩,
    ⟨some 43, none, .d (.not (.t 42))⟩])
  (.cond (.t 43) (.seq (.reg [⟨some 4, none, .d (.mv (.c (.bool false)))⟩])
   (.ret)) (.skip)))
  (.seq (.reg [⟨some 4, none, .d (.mv (.c (.bool true)))⟩])
  (.ret)))))))))), [.tmp 4]⟩
def n_x_QuestionNeed : Nat → Option Ann := fun _ => none
abbrev k_x_QuestionNeed : List Nat := [0, 1, 2, 4, 5, 6, 7, 8, 9, 10, 15, 38, 43]
abbrev o_x_QuestionNeed : List Nat := [2, 8]
def c_x_QuestionNeed : Con := pure' fun
  | [.p (.agg [v, .int .i64 m]), .p (.int .i64 q)] => match slI v with
    | some x => if x.length ≤ 9223372036854775807 then some (.p (.bool true), []) else none
    | none => none
  | _ => none
set_option maxRecDepth 100000 in
theorem s_x_QuestionNeed {P : Program} (hm : P.follows .mixedOrders = true) {Γ : Gam} (hΓ : GS P Γ) {n : FuncId} {f_szState : FuncId} {f_toState : FuncId} {f_s_QuestionNeed : FuncId} {f_QuestionNeed : FuncId} {f_eqState : FuncId} (is : Is P n (a_x_QuestionNeed f_szState f_toState f_s_QuestionNeed f_QuestionNeed f_eqState)) (h_szState : Γ f_szState = c_szState) (h_toState : Γ f_toState = c_toState) (h_s_QuestionNeed : Γ f_s_QuestionNeed = c_QuestionNeed) (h_QuestionNeed : Γ f_QuestionNeed = c_QuestionNeed) (h_eqState : Γ f_eqState = c_eqState)  : Says P n c_x_QuestionNeed := by
  refine Says.pure fun args r fs h => ?_
  split at h
  case h_2 => cases h
  rename_i v m q
  split at h
  case h_2 => cases h
  rename_i x hx
  split at h
  case isFalse => cases h
  rename_i hc
  simp only [Option.some.injEq, Prod.mk.injEq] at h
  obtain ⟨rfl, rfl⟩ := h
  have hlp := slI_lenP hx
  by_cases hk : (1048576 : Int) - (x.length : Int) < 0
  · refine is.go hm hΓ k_x_QuestionNeed o_x_QuestionNeed (by simp [a_x_QuestionNeed]) ?_
    simp only [a_x_QuestionNeed, h_szState, c_szState, h_toState, c_toState, h_s_QuestionNeed, c_QuestionNeed, h_QuestionNeed, c_QuestionNeed, h_eqState, c_eqState, hlp, hc, hk, Int.reduceLE, Int.reduceNeg, Int.reduceLT, List.zipIdx_cons, List.zipIdx_nil, ↓SP, SQ, Gam.add, stepM, callC, argC, lendO, nmBy, nmC, likeL, likeB, plainOb, offs, exL, X, F, trP, trO, stepD, stepW, newA, SV.tr, SV.trL, fz, allP, Ob.tr, loadA, cellsA, SV.cells, binA, binI, eqOut, isSl, isPt, natOf, callee, snap, SV.refsL, SV.refs, thaw, fzAll, loA, hiA, elemOf, partsA, buildA, putCells, ↓reduceIte, reduceCtorEq, okCell, Nat.reduceAdd, Nat.reduceEqDiff, Nat.reduceSub, Nat.reduceMul, Nat.reduceLeDiff, Nat.reduceLT, Nat.reduceBEq, PV.scal, PV.scalL, SV.scal, SV.scalL, Ob.scal, PV.isCell, pure', resO]
    exact finA_val (by simp [retA, rvA, List.mapM_cons, List.mapM_nil, Option.pure_def, Option.bind_eq_bind, Option.bind_some, Option.map_some, mkE_cons, mk_nil, mkO_cons, mkO_nil, loadA, ↓reduceIte, List.take_succ_cons, List.take_zero, List.drop_zero, List.drop_succ_cons, List.length_cons, List.length_nil, Nat.reduceAdd, Nat.reduceEqDiff, Nat.reduceLeDiff, Nat.zero_add, Nat.le_refl, reduceCtorEq, SV.tr, SV.trL, nmF, rn_nil, rn_cons1, rn_cons2, List.map_cons, List.map_nil, List.all_cons, List.all_nil, plainOb, SV.refsL, SV.refs, Ob.refs, X, F, List.range_succ, List.range_zero, List.nil_append, List.cons_append, List.isEmpty_nil, decide_true, Nat.reduceLT, Bool.and_self, Bool.and_true, and_self, and_true, List.getElem?_cons_zero, List.getElem?_cons_succ, List.nodup_cons, List.nodup_nil, List.mem_cons, List.not_mem_nil, not_false_eq_true, or_false, List.append_nil, mkO, setO_mk, List.mem_singleton]) (by simp [SV.tr, SV.trL])
  · have hlen : x.length ≤ 1048576 := by omega
    have hlen2 : x.length ≤ 1100000 := by omega
    generalize hg1 : (if qOK x m q = true then snV (cntL m x) (spQ m x q) else 0) = v1 at *
    generalize hg2 : qOK x m q = v2 at *
    refine is.go hm hΓ k_x_QuestionNeed o_x_QuestionNeed (by simp [a_x_QuestionNeed]) ?_
    simp only [a_x_QuestionNeed, h_szState, c_szState, h_toState, c_toState, h_s_QuestionNeed, c_QuestionNeed, h_QuestionNeed, c_QuestionNeed, h_eqState, c_eqState, hx, hlp, hc, hk, hlen, hlen2, hg1, hg2, slI_sl, ints_len, beq_self_eq_true, Bool.not_true, Int.reduceLE, Int.reduceNeg, Int.reduceLT, bne_self_eq_false, List.zipIdx_cons, List.zipIdx_nil, ↓SP, SQ, Gam.add, stepM, callC, argC, lendO, nmBy, nmC, likeL, likeB, plainOb, offs, exL, X, F, trP, trO, stepD, stepW, newA, SV.tr, SV.trL, fz, allP, Ob.tr, loadA, cellsA, SV.cells, binA, binI, eqOut, isSl, isPt, natOf, callee, snap, SV.refsL, SV.refs, thaw, fzAll, loA, hiA, elemOf, partsA, buildA, putCells, ↓reduceIte, reduceCtorEq, okCell, Nat.reduceAdd, Nat.reduceEqDiff, Nat.reduceSub, Nat.reduceMul, Nat.reduceLeDiff, Nat.reduceLT, Nat.reduceBEq, PV.scal, PV.scalL, SV.scal, SV.scalL, Ob.scal, PV.isCell, pure', resO]
    exact finA_val (by simp [retA, rvA, List.mapM_cons, List.mapM_nil, Option.pure_def, Option.bind_eq_bind, Option.bind_some, Option.map_some, mkE_cons, mk_nil, mkO_cons, mkO_nil, loadA, ↓reduceIte, List.take_succ_cons, List.take_zero, List.drop_zero, List.drop_succ_cons, List.length_cons, List.length_nil, Nat.reduceAdd, Nat.reduceEqDiff, Nat.reduceLeDiff, Nat.zero_add, Nat.le_refl, reduceCtorEq, SV.tr, SV.trL, nmF, rn_nil, rn_cons1, rn_cons2, List.map_cons, List.map_nil, List.all_cons, List.all_nil, plainOb, SV.refsL, SV.refs, Ob.refs, X, F, List.range_succ, List.range_zero, List.nil_append, List.cons_append, List.isEmpty_nil, decide_true, Nat.reduceLT, Bool.and_self, Bool.and_true, and_self, and_true, List.getElem?_cons_zero, List.getElem?_cons_succ, List.nodup_cons, List.nodup_nil, List.mem_cons, List.not_mem_nil, not_false_eq_true, or_false, List.append_nil, mkO, setO_mk, List.mem_singleton]) (by simp [SV.tr, SV.trL])
end Go.Proofs.Ytihpfhdkjlphhaa.Pam
