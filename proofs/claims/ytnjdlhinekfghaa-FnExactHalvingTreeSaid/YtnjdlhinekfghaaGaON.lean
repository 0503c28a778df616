/- A part of the proof that stands in this folder: a small machine whose steps are shown to be the steps of the model, or walks of functions by it. No condition of its own. -/
import Derived.Test.YtnjdlhinekfghaaGaOL
set_option linter.unusedVariables false
set_option linter.unusedSimpArgs false
namespace Go.Proofs.Ytnjdlhinekfghaa.Pam
open Go
def orL (l : List Int) : Int := l.foldl (fun q x => orW .i64 q (IntKind.i64.wrap (1 * 2 ^ min x.toNat IntKind.i64.bits))) 0
def hvF : Nat → List Int → Br
  | 0, _ => .lf
  | k + 1, l => if l.length = 1 then .lf else .nd (orL (l.take ((l.length + 1) / 2))) (hvF k (l.take ((l.length + 1) / 2))) (hvF k (l.drop ((l.length + 1) / 2)))
def hvB (l : List Int) : Br := hvF 12 l
theorem hvF_st : ∀ (k k' : Nat) (l : List Int), 1 ≤ l.length → l.length ≤ k → l.length ≤ k' → hvF k l = hvF k' l
  | 0, _, l, h1, h2, _ => by omega
  | _, 0, l, h1, _, h3 => by omega
  | k + 1, k' + 1, l, h1, h2, h3 => by
    simp only [hvF]
    by_cases h : l.length = 1
    · simp only [h, if_true]
    · simp only [h, if_false]
      have l1 : (l.take ((l.length + 1) / 2)).length = (l.length + 1) / 2 := by rw [List.length_take]; omega
      have l2 : (l.drop ((l.length + 1) / 2)).length = l.length - (l.length + 1) / 2 := List.length_drop ..
      rw [hvF_st k k' _ (by omega) (by omega) (by omega), hvF_st k k' (l.drop _) (by omega) (by omega) (by omega)]
theorem hvB_1 {l : List Int} (h : l.length = 1) : hvB l = .lf := by simp only [hvB, hvF, h, if_true]
theorem hvB_2 {l : List Int} (h : 2 ≤ l.length) (h2 : l.length ≤ 12) : hvB l = .nd (orL (l.take ((l.length + 1) / 2))) (hvB (l.take ((l.length + 1) / 2))) (hvB (l.drop ((l.length + 1) / 2))) := by
  have h1 : l.length ≠ 1 := by omega
  have l1 : (l.take ((l.length + 1) / 2)).length = (l.length + 1) / 2 := by rw [List.length_take]; omega
  have l2 : (l.drop ((l.length + 1) / 2)).length = l.length - (l.length + 1) / 2 := List.length_drop ..
  unfold hvB
  rw [hvF_st 12 11 (l.take _) (by omega) (by omega) (by omega), hvF_st 12 11 (l.drop _) (by omega) (by omega) (by omega)]
  rw [hvF, if_neg h1]
theorem hvF_N : ∀ (k : Nat) (l : List Int), 1 ≤ l.length → l.length ≤ k → brN (hvF k l) + 1 = 2 * l.length
  | 0, l, h1, h2 => by omega
  | k + 1, l, h1, h2 => by
    simp only [hvF]
    by_cases h : l.length = 1
    · simp only [h, if_true, brN]
    · simp only [h, if_false, brN]
      have l1 : (l.take ((l.length + 1) / 2)).length = (l.length + 1) / 2 := by rw [List.length_take]; omega
      have l2 : (l.drop ((l.length + 1) / 2)).length = l.length - (l.length + 1) / 2 := List.length_drop ..
      have e1 := hvF_N k (l.take ((l.length + 1) / 2)) (by omega) (by omega)
      have e2 := hvF_N k (l.drop ((l.length + 1) / 2)) (by omega) (by omega)
      omega
theorem hvB_N {l : List Int} (h1 : 1 ≤ l.length) (h2 : l.length ≤ 12) : brN (hvB l) + 1 = 2 * l.length := hvF_N 12 l h1 h2
def okH (l : List Int) : Bool := decide (1 ≤ l.length) && decide (l.length ≤ 12) && l.all fun x => decide (0 ≤ x) && decide (x ≤ 12)
theorem okH_out {l : List Int} (h : okH l = true) : 1 ≤ l.length ∧ l.length ≤ 12 ∧ ∀ x ∈ l, 0 ≤ x ∧ x ≤ 12 := by
  simp only [okH, Bool.and_eq_true, decide_eq_true_eq, List.all_eq_true] at h
  exact ⟨h.1.1, h.1.2, h.2⟩
theorem okH_in {l : List Int} (h1 : 1 ≤ l.length) (h2 : l.length ≤ 12) (h3 : ∀ x ∈ l, 0 ≤ x ∧ x ≤ 12) : okH l = true := by
  simp only [okH, Bool.and_eq_true, decide_eq_true_eq, List.all_eq_true]
  exact ⟨⟨h1, h2⟩, h3⟩
theorem okH_take {l : List Int} (h : okH l = true) {k : Nat} (hk : 1 ≤ k) : okH (l.take k) = true := by
  obtain ⟨h1, h2, h3⟩ := okH_out h
  exact okH_in (by rw [List.length_take]; omega) (by rw [List.length_take]; omega) fun x hx => h3 x (List.mem_of_mem_take hx)
theorem okH_drop {l : List Int} (h : okH l = true) {k : Nat} (hk : k < l.length) : okH (l.drop k) = true := by
  obtain ⟨h1, h2, h3⟩ := okH_out h
  exact okH_in (by rw [List.length_drop]; omega) (by rw [List.length_drop]; omega) fun x hx => h3 x (List.mem_of_mem_drop hx)
def muH : List SV → List Ob → Nat := fun args _ => match args with
  | [.p (.sl _ xs)] => xs.length
  | _ => 0
def a_l9Halves (f_l9Leaf : FuncId) (f_l9Halves : FuncId) (f_l9Join : FuncId) : AFn := ⟨1, 
  .seq (.reg [⟨some 2, none, .d (.mv (.c (.nilsl)))⟩])
  (.seq (.seq (.reg [⟨some 6, none, .d (.mv (.t 0))⟩,
    ⟨some 7, none, .d (.len (.t 6))⟩,
    ⟨some 8, none, .d (.bin .arith .eql (.t 7) (.c (.int .i64 1)))⟩])
  (.cond (.t 8) (.seq (.reg [⟨some 9, none, .d (.call (.f f_l9Leaf) [])⟩,
     ⟨some 10, none, .w (.bslice 3 [.agg [.int .i64 0, .int .i64 0, .int .i64 0]] [(0, (.t 9))])⟩,
     ⟨some 2, none, .d (.mv (.t 10))⟩])
   (.ret)) (.skip)))
  (.seq (.reg [⟨some 11, none, .d (.mv (.t 0))⟩,
    ⟨some 12, none, .d (.len (.t 11))⟩,
    ⟨some 13, none, .d (.bin .arith .add (.t 12) (.c (.int .i64 1)))⟩,
    ⟨some 14, none, .d (.bin .arith .quo (.t 13) (.c (.int .i64 2)))⟩,
    ⟨some 3, none, .d (.mv (.t 14))⟩,
    ⟨some 4, none, .d (.mv (.c (.int .i64 0)))⟩])
  (.seq (.seq (.reg [⟨some 5, none, .d (.mv (.c (.int .i64 0)))⟩])
  (.block 0 (.loop (.seq (.seq (.reg [⟨some 15, none, .d (.mv (.t 5))⟩,
      ⟨some 16, none, .d (.mv (.t 3))⟩,
      ⟨some 17, none, .d (.bin .arith .lss (.t 15) (.t 16))⟩])
    (.cond (.t 17) (.skip) (.exit 0)))
    (.seq (.block 1 (.reg [⟨some 20, none, .d (.mv (.t 4))⟩,
       ⟨some 21, none, .d (.mv (.t 0))⟩,
       ⟨some 22, none, .d (.mv (.t 5))⟩,
       ⟨some 23, none, .d (.ia 1 (.t 21) (.t 22))⟩,
       ⟨some 24, none, .d (.load false 1 (.t 23))⟩,
       ⟨some 25, none, .d (.bin .arith .shl (.c (.int .i64 1)) (.t 24))⟩,
       ⟨some 26, none, .d (.bin .arith .or (.t 20) (.t 25))⟩,
       ⟨some 4, none, .d (.mv (.t 26))⟩]))
    (.reg [⟨some 18, none, .d (.mv (.t 5))⟩,
      ⟨some 19, none, .d (.bin .arith .add (.t 18) (.c (.int .i64 1)))⟩,
      ⟨some 5, none, .d (.mv (.t 19))⟩]))))))
  (.seq (.dreg [] [([], ⟨some 27, none, .d (.mv (.t 4))⟩),
    ([], ⟨some 28, none, .d (.mv (.t 0))⟩),
    ([], ⟨some 29, none, .d (.mv (.t 3))⟩),
    ([], ⟨some 30, none, .d (.slc 1 (.t 28) none (some (.t 29)))⟩),
    ([], ⟨some 31, none, .d (.call (.f f_l9Halves) [(.t 30)])⟩),
    ([], ⟨some 32, none, .d (.mv (.t 0))⟩),
    ([], ⟨some 33, none, .d (.mv (.t 3))⟩),
    ([], ⟨some 34, none, .d (.slc 1 (.t 32) (some (.t 33)) none)⟩),
    ([], ⟨some 35, none, .d (.call (.f f_l9Halves) [(.t 34)])⟩)] [⟨some 36, none, .d (.call (.f f_l9Join) [(.t 27), (.t 31), (.t 35)])⟩,
    ⟨some 2, none, .d (.mv (.t 36))⟩])
  (.ret))))), [.tmp 2]⟩
def n_l9Halves : Nat → Option Ann := fun _ => none
abbrev k_l9Halves : List Nat := [0, 2, 3, 4, 5, 8, 17]
abbrev o_l9Halves : List Nat := [10]
def c_l9Halves : Con := pure' fun
  | [.p (.sl 1 xs)] => if isI xs = true ∧ okH (ofI xs) = true then some (if xs.length = 1 then (.ar 2000000, [.arr 3 (nds (trB (hvB (ofI xs)) 0))]) else (.p (.sl 3 (nds (trB (hvB (ofI xs)) 0))), [])) else none
  | _ => none
theorem l9Halves_walk {P : Program} (hm : P.follows .mixedOrders = true) {Γ : Gam} (hΓ : GS P Γ) {n f_l9Leaf f_l9Halves f_l9Join : FuncId} {k : Nat} (is : Is P n (a_l9Halves f_l9Leaf f_l9Halves f_l9Join)) (h_l9Leaf : Γ f_l9Leaf = c_l9Leaf) (h_l9Join : Γ f_l9Join = c_l9Join) (h_l9Halves : Γ f_l9Halves = lim muH k c_l9Halves) : ∀ args ext r ext' fs, c_l9Halves args ext = some (r, ext', fs) → muH args ext = k → PC P n args ext r ext' fs := by
  intro args ext r ext' fs h hmu
  unfold c_l9Halves pure' at h
  split at h
  case h_2 => cases h
  rename_i ext
  simp only [Option.map_eq_some_iff, Prod.mk.injEq] at h
  obtain ⟨⟨r0, fs0⟩, h, rfl, rfl, rfl⟩ := h
  split at h
  case h_2 => cases h
  rename_i xs
  split at h
  case isFalse => cases h
  rename_i hc
  obtain ⟨hx, hok⟩ := hc
  obtain ⟨l, rfl⟩ := isI_out hx
  simp only [ofI_ints, ints_len, Option.some.injEq] at h hok
  simp only [muH, ints_len] at hmu ⊢
  obtain ⟨h1, h2, h3⟩ := okH_out hok
  by_cases hl : l.length = 1
  · simp only [hl, if_true, Prod.mk.injEq] at h
    obtain ⟨rfl, rfl⟩ := h
    have hb := hvB_1 hl
    refine is.go hm hΓ k_l9Halves o_l9Halves (by simp [a_l9Halves]) ?_
    simp only [a_l9Halves, h_l9Leaf, c_l9Leaf, ints_len, hl, (by decide : (((1 : Nat) : Int) == 1) = true), List.zipIdx_cons, List.zipIdx_nil, ↓SP, SQ, Gam.add, stepM, callC, argC, lendO, nmBy, nmC, likeL, likeB, plainOb, offs, exL, X, F, trP, trO, stepD, stepW, newA, SV.tr, SV.trL, fz, allP, Ob.tr, loadA, cellsA, SV.cells, binA, binI, eqOut, isSl, isPt, natOf, callee, snap, SV.refsL, SV.refs, thaw, fzAll, loA, hiA, elemOf, partsA, buildA, putCells, ↓reduceIte, reduceCtorEq, okCell, Nat.reduceAdd, Nat.reduceEqDiff, Nat.reduceSub, Nat.reduceMul, Nat.reduceLeDiff, Nat.reduceLT, Nat.reduceBEq, PV.scal, PV.scalL, SV.scal, SV.scalL, Ob.scal, PV.isCell, pure', resO]
    refine finA_gen [10] trivial (by simp [retA, rvA, mkE_cons, mk_nil, mkO_cons, mkO_nil, loadA, SV.tr, SV.trL, nmF, rn_nil, rn_cons1, rn_cons2, plainOb, SV.refsL, SV.refs, Ob.refs, X, F, List.range_succ, mkO, setO_mk]; rfl) ?_ ?_ ?_ ?_ ?_ ?_ ?_ <;> simp [hb, trB, nds, ndE, retA, rvA, mkE_cons, mk_nil, mkO_cons, mkO_nil, loadA, SV.tr, SV.trL, nmF, rn_nil, rn_cons1, rn_cons2, plainOb, SV.refsL, SV.refs, Ob.refs, X, F, List.range_succ, mkO, setO_mk]
  · simp only [hl, if_false, Prod.mk.injEq] at h
    obtain ⟨rfl, rfl⟩ := h
    have hl1 : ((l.length : Int) == 1) = false := beq_eq_false_iff_ne.2 (by omega)
    have hw := wrap_one (i := l.length) (by omega)
    obtain ⟨m, hmd⟩ : ∃ m, (l.length + 1) / 2 = m := ⟨_, rfl⟩
    have hq : IntKind.i64.wrap (((l.length + 1 : Nat) : Int).tdiv 2) = (m : Int) := by
      rw [← hmd, Int.tdiv_eq_ediv_of_nonneg (by omega), wrap64 (by omega) (by omega)]; omega
    have hml : m ≤ l.length := by omega
    have hm1 : 1 ≤ m := by omega
    have hm2 : m < l.length := by omega
    refine is.go hm hΓ k_l9Halves o_l9Halves (by simp [a_l9Halves]) ?_
    have h20 : ¬ (2 : Int) = 0 := by decide
    have htk : (l.take m).length = m := by rw [List.length_take]; omega
    have hdp : (l.drop m).length = l.length - m := List.length_drop ..
    have hn1 := hvB_N (l := l.take m) (by omega) (by omega)
    have hn2 := hvB_N (l := l.drop m) (by omega) (by omega)
    have k1 := okH_take hok hm1
    have k2 := okH_drop hok hm2
    have hB := hvB_2 (l := l) (by omega) h2
    rw [hmd] at hB
    simp only [a_l9Halves, h_l9Leaf, c_l9Leaf, ints_len, hl1, hw, hq, h20, List.zipIdx_cons, List.zipIdx_nil, ↓SP, SQ, Gam.add, stepM, callC, argC, lendO, nmBy, nmC, likeL, likeB, plainOb, offs, exL, X, F, trP, trO, stepD, stepW, newA, SV.tr, SV.trL, fz, allP, Ob.tr, loadA, cellsA, SV.cells, binA, binI, eqOut, isSl, isPt, natOf, callee, snap, SV.refsL, SV.refs, thaw, fzAll, loA, hiA, elemOf, partsA, buildA, putCells, ↓reduceIte, reduceCtorEq, okCell, Nat.reduceAdd, Nat.reduceEqDiff, Nat.reduceSub, Nat.reduceMul, Nat.reduceLeDiff, Nat.reduceLT, Nat.reduceBEq, PV.scal, PV.scalL, SV.scal, SV.scalL, Ob.scal, PV.isCell, pure', resO]
    refine loop_at (fun st : Nat × SV => mkEnv [(0, .p (.sl 1 (ints l))), (2, .p .nilsl), (3, si m), (4, si (orL (l.take st.1))), (5, si st.1), (8, sb false), (17, st.2)]) (fun st => mkO [(10, none)]) (fun st => st.1 ≤ m) (fun st => m - st.1) (0, .junk) (by simp) rfl rfl ?_
    rintro ⟨i, c1⟩ hi R hR hN
    simp only at hi
    by_cases h : i < m
    · have hlt : (i : Int) < m := by omega
      have hil : i < l.length := by omega
      have hwi := wrap_one (i := i) (by omega)
      have hg := ints_get hil
      have hor : orL (l.take (i + 1)) = orW .i64 (orL (l.take i)) (IntKind.i64.wrap (1 * 2 ^ min (l.getD i 0).toNat IntKind.i64.bits)) := foldl_one _ 0 l i 0 hil
      have hp : 0 ≤ l.getD i 0 := by rw [getD_lt hil]; exact (h3 _ (List.getElem_mem _)).1
      have hp2 : ¬ l.getD i 0 < 0 := by omega
      simp only [ints_len, hlt, hwi, hg, hil, hp2, bitA_or, ↓SP, SQ, Gam.add, stepM, callC, argC, lendO, nmBy, nmC, likeL, likeB, plainOb, offs, exL, X, F, trP, trO, stepD, stepW, newA, SV.tr, SV.trL, fz, allP, Ob.tr, loadA, cellsA, SV.cells, binA, binI, eqOut, isSl, isPt, natOf, callee, snap, SV.refsL, SV.refs, thaw, fzAll, loA, hiA, elemOf, partsA, buildA, putCells, ↓reduceIte, reduceCtorEq, okCell, Nat.reduceAdd, Nat.reduceEqDiff, Nat.reduceSub, Nat.reduceMul, Nat.reduceLeDiff, Nat.reduceLT, Nat.reduceBEq, PV.scal, PV.scalL, SV.scal, SV.scalL, Ob.scal, PV.isCell, pure', resO]
      rw [← hor]
      exact hN (i + 1, _) _ _ (by simp only; omega) (by simp only; omega) rfl rfl
    · have he : i = m := by omega
      subst he
      have hlt : ¬ (i : Int) < i := by omega
      simp only [hlt, ↓SP, SQ, Gam.add, stepM, callC, argC, lendO, nmBy, nmC, likeL, likeB, plainOb, offs, exL, X, F, trP, trO, stepD, stepW, newA, SV.tr, SV.trL, fz, allP, Ob.tr, loadA, cellsA, SV.cells, binA, binI, eqOut, isSl, isPt, natOf, callee, snap, SV.refsL, SV.refs, thaw, fzAll, loA, hiA, elemOf, partsA, buildA, putCells, ↓reduceIte, reduceCtorEq, okCell, Nat.reduceAdd, Nat.reduceEqDiff, Nat.reduceSub, Nat.reduceMul, Nat.reduceLeDiff, Nat.reduceLT, Nat.reduceBEq, PV.scal, PV.scalL, SV.scal, SV.scalL, Ob.scal, PV.isCell, pure', resO]
      refine hR _ _ _ (by intro h; cases h) ?_
      have q1 := trB_bd (hvB (l.take i)) 0 (Int.le_refl _) (by omega)
      have q2 := trB_bd (hvB (l.drop i)) 0 (Int.le_refl _) (by omega)
      have q3 : (trB (hvB (l.take i)) 0).length ≤ 1000 := by rw [trB_len]; omega
      have q4 : (trB (hvB (l.drop i)) 0).length ≤ 1000 := by rw [trB_len]; omega
      have q5 : jnN (orL (l.take i)) (trB (hvB (l.take i)) 0) (trB (hvB (l.drop i)) 0) = trB (hvB l) 0 := by rw [hB]; exact jn_tr _ _ _
      have q6 := isNs_nds (trB (hvB (l.take i)) 0)
      have q7 := isNs_nds (trB (hvB (l.drop i)) 0)
      have r1 : i < k := by omega
      have r2 : l.length - i < k := by omega
      have r3 : (ints l).drop i = ints (l.drop i) := ints_drop _ _
      have r4 : (ints l).take i = ints (l.take i) := ints_take _ _
      have r5 : (l.drop i).take (l.length - i) = l.drop i := by rw [List.take_of_length_le (by omega)]
      obtain ⟨P1, hP1⟩ : ∃ p, (i = 1) = p := ⟨_, rfl⟩
      obtain ⟨P2, hP2⟩ : ∃ p, (l.length - i = 1) = p := ⟨_, rfl⟩
      rcases Classical.propComplete P1 with rfl | rfl <;> rcases Classical.propComplete P2 with rfl | rfl <;> simp only [ints_len, hml, h_l9Halves, h_l9Join, c_l9Halves, c_l9Join, lim, muH, Nat.sub_zero, r1, r2, r3, r4, r5, htk, hdp, k1, k2, hP1, hP2, q1, q2, q3, q4, q5, q6, q7, isI_ints, ofI_ints, ofNs_nds, nds_len, ints_take, ↓SP, SQ, Gam.add, stepM, callC, argC, lendO, nmBy, nmC, likeL, likeB, plainOb, offs, exL, X, F, trP, trO, stepD, stepW, newA, SV.tr, SV.trL, fz, allP, Ob.tr, loadA, cellsA, SV.cells, binA, binI, eqOut, isSl, isPt, natOf, callee, snap, SV.refsL, SV.refs, thaw, fzAll, loA, hiA, elemOf, partsA, buildA, putCells, ↓reduceIte, reduceCtorEq, okCell, Nat.reduceAdd, Nat.reduceEqDiff, Nat.reduceSub, Nat.reduceMul, Nat.reduceLeDiff, Nat.reduceLT, Nat.reduceBEq, PV.scal, PV.scalL, SV.scal, SV.scalL, Ob.scal, PV.isCell, pure', resO]
      · exact finA_val (by simp [retA, rvA, mkE_cons, mk_nil, mkO_cons, mkO_nil, loadA, SV.tr, SV.trL, nmF, rn_nil, rn_cons1, rn_cons2, plainOb, SV.refsL, SV.refs, Ob.refs, X, F, List.range_succ, mkO, setO_mk]) (by simp [SV.tr, SV.trL])
      · exact finA_val (by simp [retA, rvA, mkE_cons, mk_nil, mkO_cons, mkO_nil, loadA, SV.tr, SV.trL, nmF, rn_nil, rn_cons1, rn_cons2, plainOb, SV.refsL, SV.refs, Ob.refs, X, F, List.range_succ, mkO, setO_mk]) (by simp [SV.tr, SV.trL])
      · exact finA_val (by simp [retA, rvA, mkE_cons, mk_nil, mkO_cons, mkO_nil, loadA, SV.tr, SV.trL, nmF, rn_nil, rn_cons1, rn_cons2, plainOb, SV.refsL, SV.refs, Ob.refs, X, F, List.range_succ, mkO, setO_mk]) (by simp [SV.tr, SV.trL])
      · exact finA_val (by simp [retA, rvA, mkE_cons, mk_nil, mkO_cons, mkO_nil, loadA, SV.tr, SV.trL, nmF, rn_nil, rn_cons1, rn_cons2, plainOb, SV.refsL, SV.refs, Ob.refs, X, F, List.range_succ, mkO, setO_mk]) (by simp [SV.tr, SV.trL])
theorem s_l9Halves {P : Program} (hm : P.follows .mixedOrders = true) {Γ : Gam} (hΓ : GS P Γ) {n f_l9Leaf f_l9Join : FuncId} (is : Is P n (a_l9Halves f_l9Leaf n f_l9Join)) (hne : f_l9Leaf ≠ n ∧ f_l9Join ≠ n) (h_l9Leaf : Γ f_l9Leaf = c_l9Leaf) (h_l9Join : Γ f_l9Join = c_l9Join) : Says P n c_l9Halves := by
  refine Says.rec hΓ muH fun k hk args ext r ext' fs h hmu => ?_
  obtain ⟨n1, n2⟩ := hne
  exact l9Halves_walk (k := k) hm hk is (by simp [Gam.addX, n1, h_l9Leaf]) (by simp [Gam.addX, n2, h_l9Join]) (by simp [Gam.addX]) args ext r ext' fs h hmu
def a_halving (f_halving : FuncId) : AFn := ⟨1, 
  .seq (.reg [⟨some 2, none, .d (.mv (.c (.np)))⟩])
  (.seq (.seq (.reg [⟨some 7, none, .d (.mv (.t 0))⟩,
    ⟨some 8, none, .d (.len (.t 7))⟩,
    ⟨some 9, none, .d (.bin .arith .eql (.t 8) (.c (.int .i64 1)))⟩])
  (.cond (.t 9) (.seq (.reg [⟨some 10, none, .d (.build [.int .i64 0, .np, .np] [])⟩,
     ⟨some 11, none, .w (.box 3 (.t 10))⟩,
     ⟨some 2, none, .d (.mv (.t 11))⟩])
   (.ret)) (.skip)))
  (.seq (.reg [⟨some 12, none, .d (.mv (.t 0))⟩,
    ⟨some 13, none, .d (.len (.t 12))⟩,
    ⟨some 14, none, .d (.bin .arith .add (.t 13) (.c (.int .i64 1)))⟩,
    ⟨some 15, none, .d (.bin .arith .quo (.t 14) (.c (.int .i64 2)))⟩,
    ⟨some 3, none, .d (.mv (.t 15))⟩,
    ⟨some 4, none, .d (.mv (.c (.int .i64 0)))⟩])
  (.seq (.seq (.reg [⟨some 16, none, .d (.mv (.t 0))⟩,
    ⟨some 17, none, .d (.mv (.t 3))⟩,
    ⟨some 18, none, .d (.slc 1 (.t 16) none (some (.t 17)))⟩,
    ⟨some 19, none, .d (.len (.t 18))⟩,
    ⟨some 20, none, .d (.mv (.c (.int .i64 0)))⟩])
  (.block 0 (.loop (.seq (.reg [⟨some 21, none, .d (.bin .arith .lss (.t 20) (.t 19))⟩])
    (.seq (.cond (.t 21) (.skip) (.exit 0))
    (.seq (.block 1 (.seq (.reg [⟨some 22, none, .d (.ia 1 (.t 18) (.t 20))⟩,
       ⟨some 23, none, .d (.load false 1 (.t 22))⟩,
       ⟨some 6, none, .d (.mv (.t 23))⟩])
     (.reg [⟨some 24, none, .d (.mv (.t 4))⟩,
       ⟨some 25, none, .d (.mv (.t 6))⟩,
       ⟨some 26, none, .d (.bin .arith .shl (.c (.int .i64 1)) (.t 25))⟩,
       ⟨some 27, none, .d (.bin .arith .or (.t 24) (.t 26))⟩,
       ⟨some 4, none, .d (.mv (.t 27))⟩])))
    (.reg [⟨some 28, none, .d (.bin .arith .add (.t 20) (.c (.int .i64 1)))⟩,
      ⟨some 20, none, .d (.mv (.t 28))⟩])))))))
  (.seq (.dreg [] [([], ⟨some 29, none, .d (.mv (.t 4))⟩),
    ([], ⟨some 30, none, .d (.mv (.t 0))⟩),
    ([], ⟨some 31, none, .d (.mv (.t 3))⟩),
    ([], ⟨some 32, none, .d (.slc 1 (.t 30) none (some (.t 31)))⟩),
    ([], ⟨some 33, none, .d (.call (.f f_halving) [(.t 32)])⟩),
    ([], ⟨some 34, none, .d (.mv (.t 0))⟩),
    ([], ⟨some 35, none, .d (.mv (.t 3))⟩),
    ([], ⟨some 36, none, .d (.slc 1 (.t 34) (some (.t 35)) none)⟩),
    ([], ⟨some 37, none, .d (.call (.f f_halving) [(.t 36)])⟩)] [⟨some 38, none, .d (.build [.int .i64 0, .np, .np] [(0, 1, (.t 29)), (1, 1, (.t 33)), (2, 1, (.t 37))])⟩,
    ⟨some 39, none, .w (.box 3 (.t 38))⟩,
    ⟨some 2, none, .d (.mv (.t 39))⟩])
  (.ret))))), [.tmp 2]⟩
def n_halving : Nat → Option Ann := fun _ => none
abbrev k_halving : List Nat := [0, 2, 3, 4, 6, 9, 18, 19, 20, 21]
abbrev o_halving : List Nat := [11, 39]
def c_halving : Con := pure' fun
  | [.p (.sl 1 xs)] => if isI xs = true ∧ okH (ofI xs) = true then some (.bx 2000000 0, [.box ((brCs (hvB (ofI xs))).map .p)]) else none
  | _ => none
theorem halving_walk {P : Program} (hm : P.follows .mixedOrders = true) {Γ : Gam} (hΓ : GS P Γ) {n f_halving : FuncId} {k : Nat} (is : Is P n (a_halving f_halving)) (h_halving : Γ f_halving = lim muH k c_halving) : ∀ args ext r ext' fs, c_halving args ext = some (r, ext', fs) → muH args ext = k → PC P n args ext r ext' fs := by
  intro args ext r ext' fs h hmu
  unfold c_halving pure' at h
  split at h
  case h_2 => cases h
  rename_i ext
  simp only [Option.map_eq_some_iff, Prod.mk.injEq] at h
  obtain ⟨⟨r0, fs0⟩, h, rfl, rfl, rfl⟩ := h
  split at h
  case h_2 => cases h
  rename_i xs
  split at h
  case isFalse => cases h
  rename_i hc
  obtain ⟨hx, hok⟩ := hc
  obtain ⟨l, rfl⟩ := isI_out hx
  simp only [ofI_ints, ints_len, Option.some.injEq, Prod.mk.injEq] at h hok
  obtain ⟨rfl, rfl⟩ := h
  simp only [muH, ints_len] at hmu ⊢
  obtain ⟨h1, h2, h3⟩ := okH_out hok
  by_cases hl : l.length = 1
  · have hb := hvB_1 hl
    refine is.go hm hΓ k_halving o_halving (by simp [a_halving]) ?_
    simp only [a_halving, ints_len, hl, (by decide : (((1 : Nat) : Int) == 1) = true), List.zipIdx_cons, List.zipIdx_nil, ↓SP, SQ, Gam.add, stepM, callC, argC, lendO, nmBy, nmC, likeL, likeB, plainOb, offs, exL, X, F, trP, trO, stepD, stepW, newA, SV.tr, SV.trL, fz, allP, Ob.tr, loadA, cellsA, SV.cells, binA, binI, eqOut, isSl, isPt, natOf, callee, snap, SV.refsL, SV.refs, thaw, fzAll, loA, hiA, elemOf, partsA, buildA, putCells, ↓reduceIte, reduceCtorEq, okCell, Nat.reduceAdd, Nat.reduceEqDiff, Nat.reduceSub, Nat.reduceMul, Nat.reduceLeDiff, Nat.reduceLT, Nat.reduceBEq, PV.scal, PV.scalL, SV.scal, SV.scalL, Ob.scal, PV.isCell, pure', resO]
    refine finA_gen [11] trivial (by simp [retA, rvA, mkE_cons, mk_nil, mkO_cons, mkO_nil, loadA, SV.tr, SV.trL, nmF, rn_nil, rn_cons1, rn_cons2, plainOb, SV.refsL, SV.refs, Ob.refs, X, F, List.range_succ, mkO, setO_mk]; rfl) ?_ ?_ ?_ ?_ ?_ ?_ ?_ <;> simp [hb, brCs, retA, rvA, mkE_cons, mk_nil, mkO_cons, mkO_nil, loadA, SV.tr, SV.trL, nmF, rn_nil, rn_cons1, rn_cons2, plainOb, SV.refsL, SV.refs, Ob.refs, X, F, List.range_succ, mkO, setO_mk]
  · have hl1 : ((l.length : Int) == 1) = false := beq_eq_false_iff_ne.2 (by omega)
    have hw := wrap_one (i := l.length) (by omega)
    obtain ⟨m, hmd⟩ : ∃ m, (l.length + 1) / 2 = m := ⟨_, rfl⟩
    have hq : IntKind.i64.wrap (((l.length + 1 : Nat) : Int).tdiv 2) = (m : Int) := by
      rw [← hmd, Int.tdiv_eq_ediv_of_nonneg (by omega), wrap64 (by omega) (by omega)]; omega
    have hml : m ≤ l.length := by omega
    have hm1 : 1 ≤ m := by omega
    have hm2 : m < l.length := by omega
    have h20 : ¬ (2 : Int) = 0 := by decide
    have htk : (l.take m).length = m := by rw [List.length_take]; omega
    have hdp : (l.drop m).length = l.length - m := List.length_drop ..
    have k1 := okH_take hok hm1
    have k2 := okH_drop hok hm2
    have hB := hvB_2 (l := l) (by omega) h2
    rw [hmd] at hB
    have r4 : (ints l).take m = ints (l.take m) := ints_take _ _
    refine is.go hm hΓ k_halving o_halving (by simp [a_halving]) ?_
    simp only [a_halving, ints_len, hl1, hw, hq, h20, hml, Nat.sub_zero, r4, htk, List.zipIdx_cons, List.zipIdx_nil, ↓SP, SQ, Gam.add, stepM, callC, argC, lendO, nmBy, nmC, likeL, likeB, plainOb, offs, exL, X, F, trP, trO, stepD, stepW, newA, SV.tr, SV.trL, fz, allP, Ob.tr, loadA, cellsA, SV.cells, binA, binI, eqOut, isSl, isPt, natOf, callee, snap, SV.refsL, SV.refs, thaw, fzAll, loA, hiA, elemOf, partsA, buildA, putCells, ↓reduceIte, reduceCtorEq, okCell, Nat.reduceAdd, Nat.reduceEqDiff, Nat.reduceSub, Nat.reduceMul, Nat.reduceLeDiff, Nat.reduceLT, Nat.reduceBEq, PV.scal, PV.scalL, SV.scal, SV.scalL, Ob.scal, PV.isCell, pure', resO]
    refine loop_at (fun st : Nat × SV × SV => mkEnv [(0, .p (.sl 1 (ints l))), (2, .p .np), (3, si m), (4, si (orL ((l.take m).take st.1))), (6, st.2.2), (9, sb false), (18, .p (.sl 1 (ints (l.take m)))), (19, si m), (20, si st.1), (21, st.2.1)]) (fun st => mkO [(11, none), (39, none)]) (fun st => st.1 ≤ m) (fun st => m - st.1) (0, .junk, .junk) (by simp) rfl rfl ?_
    rintro ⟨i, c1, c2⟩ hi R hR hN
    simp only at hi
    by_cases h : i < m
    · have hlt : (i : Int) < m := by omega
      have hil : i < (l.take m).length := by omega
      have hwi := wrap_one (i := i) (by omega)
      have hg := ints_get hil
      have hor : orL ((l.take m).take (i + 1)) = orW .i64 (orL ((l.take m).take i)) (IntKind.i64.wrap (1 * 2 ^ min ((l.take m).getD i 0).toNat IntKind.i64.bits)) := foldl_one _ 0 (l.take m) i 0 hil
      have hp : 0 ≤ (l.take m).getD i 0 := by rw [getD_lt hil]; exact (h3 _ (List.mem_of_mem_take (List.getElem_mem _))).1
      have hp2 : ¬ (l.take m).getD i 0 < 0 := by omega
      simp only [ints_len, hlt, hwi, hg, h, htk, hp2, bitA_or, ↓SP, SQ, Gam.add, stepM, callC, argC, lendO, nmBy, nmC, likeL, likeB, plainOb, offs, exL, X, F, trP, trO, stepD, stepW, newA, SV.tr, SV.trL, fz, allP, Ob.tr, loadA, cellsA, SV.cells, binA, binI, eqOut, isSl, isPt, natOf, callee, snap, SV.refsL, SV.refs, thaw, fzAll, loA, hiA, elemOf, partsA, buildA, putCells, ↓reduceIte, reduceCtorEq, okCell, Nat.reduceAdd, Nat.reduceEqDiff, Nat.reduceSub, Nat.reduceMul, Nat.reduceLeDiff, Nat.reduceLT, Nat.reduceBEq, PV.scal, PV.scalL, SV.scal, SV.scalL, Ob.scal, PV.isCell, pure', resO]
      rw [← hor]
      exact hN (i + 1, _, _) _ _ (by simp only; omega) (by simp only; omega) rfl rfl
    · have he : i = m := by omega
      subst he
      have hlt : ¬ (i : Int) < i := by omega
      have e1 : (l.take i).take i = l.take i := List.take_of_length_le (by omega)
      simp only [hlt, e1, ↓SP, SQ, Gam.add, stepM, callC, argC, lendO, nmBy, nmC, likeL, likeB, plainOb, offs, exL, X, F, trP, trO, stepD, stepW, newA, SV.tr, SV.trL, fz, allP, Ob.tr, loadA, cellsA, SV.cells, binA, binI, eqOut, isSl, isPt, natOf, callee, snap, SV.refsL, SV.refs, thaw, fzAll, loA, hiA, elemOf, partsA, buildA, putCells, ↓reduceIte, reduceCtorEq, okCell, Nat.reduceAdd, Nat.reduceEqDiff, Nat.reduceSub, Nat.reduceMul, Nat.reduceLeDiff, Nat.reduceLT, Nat.reduceBEq, PV.scal, PV.scalL, SV.scal, SV.scalL, Ob.scal, PV.isCell, pure', resO]
      refine hR _ _ _ (by intro h; cases h) ?_
      have r1 : i < k := by omega
      have r2 : l.length - i < k := by omega
      have r3 : (ints l).drop i = ints (l.drop i) := ints_drop _ _
      have r5 : (l.drop i).take (l.length - i) = l.drop i := by rw [List.take_of_length_le (by omega)]
      simp only [ints_len, hml, h_halving, c_halving, lim, muH, Nat.sub_zero, r1, r2, r3, r4, r5, htk, hdp, k1, k2, isI_ints, ofI_ints, ints_take, allP_map, brV_cs, brV_cells, ↓SP, SQ, Gam.add, stepM, callC, argC, lendO, nmBy, nmC, likeL, likeB, plainOb, offs, exL, X, F, trP, trO, stepD, stepW, newA, SV.tr, SV.trL, fz, allP, Ob.tr, loadA, cellsA, SV.cells, binA, binI, eqOut, isSl, isPt, natOf, callee, snap, SV.refsL, SV.refs, thaw, fzAll, loA, hiA, elemOf, partsA, buildA, putCells, ↓reduceIte, reduceCtorEq, okCell, Nat.reduceAdd, Nat.reduceEqDiff, Nat.reduceSub, Nat.reduceMul, Nat.reduceLeDiff, Nat.reduceLT, Nat.reduceBEq, PV.scal, PV.scalL, SV.scal, SV.scalL, Ob.scal, PV.isCell, pure', resO]
      refine finA_gen [39] trivial (by simp [retA, rvA, mkE_cons, mk_nil, mkO_cons, mkO_nil, loadA, SV.tr, SV.trL, nmF, rn_nil, rn_cons1, rn_cons2, plainOb, SV.refsL, SV.refs, Ob.refs, X, F, List.range_succ, mkO, setO_mk]; rfl) ?_ ?_ ?_ ?_ ?_ ?_ ?_ <;> simp [hB, brCs, retA, rvA, mkE_cons, mk_nil, mkO_cons, mkO_nil, loadA, SV.tr, SV.trL, nmF, rn_nil, rn_cons1, rn_cons2, plainOb, SV.refsL, SV.refs, Ob.refs, X, F, List.range_succ, mkO, setO_mk]
theorem s_halving {P : Program} (hm : P.follows .mixedOrders = true) {Γ : Gam} (hΓ : GS P Γ) {n : FuncId} (is : Is P n (a_halving n)) (_ : True) : Says P n c_halving :=
  Says.rec hΓ muH fun k hk args ext r ext' fs h hmu => halving_walk (k := k) hm hk is (by simp [Gam.addX]) args ext r ext' fs h hmu
def numI (n : Int) : List Int := opens (List.replicate n.toNat 0)
def isC (n : Int) : Bool := decide (1 ≤ n) && decide (n ≤ 12)
theorem numI_eq (n : Int) : numI n = (List.range n.toNat).map fun j : Nat => (j : Int) := by
  unfold numI opens opensI
  rw [List.length_replicate]
  congr 1
  rw [List.filter_eq_self]
  intro j hj
  have hj2 : j < n.toNat := List.mem_range.1 hj
  simp [hj2]
theorem numI_len (n : Int) : (numI n).length = n.toNat := by rw [numI_eq]; simp
theorem numI_ok {n : Int} (h : isC n = true) : okH (numI n) = true := by
  simp only [isC, Bool.and_eq_true, decide_eq_true_eq] at h
  refine okH_in (by rw [numI_len]; omega) (by rw [numI_len]; omega) fun x hx => ?_
  rw [numI_eq] at hx
  obtain ⟨j, hj, rfl⟩ := List.mem_map.1 hx
  have := List.mem_range.1 hj
  omega
def hvT (n : Int) : List Nd := trB (hvB (numI n)) 0
theorem hvT_len {n : Int} (h : isC n = true) : (hvT n).length ≤ 30 := by
  have h0 := h
  simp only [isC, Bool.and_eq_true, decide_eq_true_eq] at h
  have := hvB_N (l := numI n) (by rw [numI_len]; omega) (by rw [numI_len]; omega)
  rw [numI_len] at this
  unfold hvT
  rw [trB_len]; omega
def a_s_HalvingTree (f_l2Numbers : FuncId) (f_start : FuncId) (f_l2Open : FuncId) (f_l9Halves : FuncId) : AFn := ⟨1, 
  .seq (.reg [⟨some 2, none, .w (.alloc [.nilsl])⟩,
    ⟨some 3, none, .d (.mv (.c (.bool false)))⟩])
  (.seq (.seq (.reg [⟨some 4, none, .d (.mv (.t 0))⟩,
    ⟨some 5, none, .d (.call (.f f_l2Numbers) [(.t 4)])⟩,
    ⟨some 6, none, .d (.not (.t 5))⟩])
  (.cond (.t 6) (.seq (.reg [⟨some 7, none, .d (.build [.nilsl] [])⟩,
     ⟨none, none, .w (.store 1 (.t 2) (.t 7))⟩,
     ⟨some 3, none, .d (.mv (.c (.bool false)))⟩])
   (.ret)) (.skip)))
  (.seq (.reg [⟨some 8, none, .d (.mv (.t 0))⟩,
    ⟨some 9, none, .d (.call (.f f_start) [(.t 8), (.c (.int .i64 0))])⟩,
    ⟨some 10, none, .d (.call (.f f_l2Open) [(.t 9)])⟩,
    ⟨some 11, none, .d (.call (.f f_l9Halves) [(.t 10)])⟩,
    ⟨some 12, none, .d (.build [.nilsl] [(0, 1, (.t 11))])⟩,
    ⟨none, none, .w (.store 1 (.t 2) (.t 12))⟩,
    ⟨some 3, none, .d (.mv (.c (.bool true)))⟩])
  (.ret))), [.cell 2 1 true, .tmp 3]⟩
def n_s_HalvingTree : Nat → Option Ann := fun _ => none
abbrev k_s_HalvingTree : List Nat := [0, 2, 3, 6]
abbrev o_s_HalvingTree : List Nat := [2]
def c_s_HalvingTree : Con := pure' fun
  | [.p (.int .i64 n)] => if (True) then some (.tp [.ag [.p (if isC n = true then .sl 3 (nds (hvT n)) else .nilsl)], .p (.bool (isC n))], []) else none
  | _ => none
theorem s_s_HalvingTree {P : Program} (hm : P.follows .mixedOrders = true) {Γ : Gam} (hΓ : GS P Γ) {n : FuncId} {f_l2Numbers : FuncId} {f_start : FuncId} {f_l2Open : FuncId} {f_l9Halves : FuncId} (is : Is P n (a_s_HalvingTree f_l2Numbers f_start f_l2Open f_l9Halves)) (h_l2Numbers : Γ f_l2Numbers = c_isCount) (h_start : Γ f_start = c_start) (h_l2Open : Γ f_l2Open = c_l2Open) (h_l9Halves : Γ f_l9Halves = c_l9Halves)  : Says P n c_s_HalvingTree := by
  refine Says.pure fun args r fs h => ?_
  split at h
  case h_2 => cases h
  rename_i n
  split at h
  case isFalse => cases h
  rename_i hc
  simp only [ofI_ints, ofBo_bools, ofAs_asks, Option.some.injEq, Prod.mk.injEq] at h hc
  obtain ⟨rfl, rfl⟩ := h
  cases hc : isC n with
  | false =>
    have hc2 : (decide (1 ≤ n) && decide (n ≤ 12)) = false := hc
    refine is.go hm hΓ k_s_HalvingTree o_s_HalvingTree (by simp [a_s_HalvingTree]) ?_
    simp only [a_s_HalvingTree, h_l2Numbers, c_isCount, h_start, c_start, h_l2Open, c_l2Open, h_l9Halves, c_l9Halves, hc2, Bool.false_eq_true, List.zipIdx_cons, List.zipIdx_nil, ↓SP, SQ, Gam.add, stepM, callC, argC, lendO, nmBy, nmC, likeL, likeB, plainOb, offs, exL, X, F, trP, trO, stepD, stepW, newA, SV.tr, SV.trL, fz, allP, Ob.tr, loadA, cellsA, SV.cells, binA, binI, eqOut, isSl, isPt, natOf, callee, snap, SV.refsL, SV.refs, thaw, fzAll, loA, hiA, elemOf, partsA, buildA, putCells, ↓reduceIte, reduceCtorEq, okCell, Nat.reduceAdd, Nat.reduceEqDiff, Nat.reduceSub, Nat.reduceMul, Nat.reduceLeDiff, Nat.reduceLT, Nat.reduceBEq, PV.scal, PV.scalL, SV.scal, SV.scalL, Ob.scal, PV.isCell, pure', resO]
    exact finA_val (by simp [retA, rvA, mkE_cons, mk_nil, mkO_cons, mkO_nil, loadA, SV.tr, SV.trL, nmF, rn_nil, rn_cons1, rn_cons2, plainOb, SV.refsL, SV.refs, Ob.refs, X, F, List.range_succ, mkO, setO_mk]) (by simp [SV.tr, SV.trL])
  | true =>
    have hc2 : (decide (1 ≤ n) && decide (n ≤ 12)) = true := hc
    have hb : 1 ≤ n ∧ n ≤ 12 := by simpa using hc2
    have q1 : 0 ≤ n ∧ n ≤ 1100000 := by omega
    have q2 : n.toNat ≤ 1100000 := by omega
    have q3 : numI n = opens (List.replicate n.toNat 0) := rfl
    have q4 := numI_ok hc
    have q5 : trB (hvB (numI n)) 0 = hvT n := rfl
    obtain ⟨P1, hP1⟩ : ∃ p, ((numI n).length = 1) = p := ⟨_, rfl⟩
    rcases Classical.propComplete P1 with rfl | rfl
    · refine is.go hm hΓ k_s_HalvingTree o_s_HalvingTree (by simp [a_s_HalvingTree]) ?_
      simp only [a_s_HalvingTree, h_l2Numbers, c_isCount, h_start, c_start, h_l2Open, c_l2Open, h_l9Halves, c_l9Halves, hc2, q1, q2, ← q3, q4, q5, hP1, List.length_replicate, isI_ints, ofI_ints, ints_len, nds_len, List.zipIdx_cons, List.zipIdx_nil, ↓SP, SQ, Gam.add, stepM, callC, argC, lendO, nmBy, nmC, likeL, likeB, plainOb, offs, exL, X, F, trP, trO, stepD, stepW, newA, SV.tr, SV.trL, fz, allP, Ob.tr, loadA, cellsA, SV.cells, binA, binI, eqOut, isSl, isPt, natOf, callee, snap, SV.refsL, SV.refs, thaw, fzAll, loA, hiA, elemOf, partsA, buildA, putCells, ↓reduceIte, reduceCtorEq, okCell, Nat.reduceAdd, Nat.reduceEqDiff, Nat.reduceSub, Nat.reduceMul, Nat.reduceLeDiff, Nat.reduceLT, Nat.reduceBEq, PV.scal, PV.scalL, SV.scal, SV.scalL, Ob.scal, PV.isCell, pure', resO]
      exact finA_val (by simp [retA, rvA, mkE_cons, mk_nil, mkO_cons, mkO_nil, loadA, SV.tr, SV.trL, nmF, rn_nil, rn_cons1, rn_cons2, plainOb, SV.refsL, SV.refs, Ob.refs, X, F, List.range_succ, mkO, setO_mk]) (by simp [SV.tr, SV.trL])
    · refine is.go hm hΓ k_s_HalvingTree o_s_HalvingTree (by simp [a_s_HalvingTree]) ?_
      simp only [a_s_HalvingTree, h_l2Numbers, c_isCount, h_start, c_start, h_l2Open, c_l2Open, h_l9Halves, c_l9Halves, hc2, q1, q2, ← q3, q4, q5, hP1, List.length_replicate, isI_ints, ofI_ints, ints_len, nds_len, List.zipIdx_cons, List.zipIdx_nil, ↓SP, SQ, Gam.add, stepM, callC, argC, lendO, nmBy, nmC, likeL, likeB, plainOb, offs, exL, X, F, trP, trO, stepD, stepW, newA, SV.tr, SV.trL, fz, allP, Ob.tr, loadA, cellsA, SV.cells, binA, binI, eqOut, isSl, isPt, natOf, callee, snap, SV.refsL, SV.refs, thaw, fzAll, loA, hiA, elemOf, partsA, buildA, putCells, ↓reduceIte, reduceCtorEq, okCell, Nat.reduceAdd, Nat.reduceEqDiff, Nat.reduceSub, Nat.reduceMul, Nat.reduceLeDiff, Nat.reduceLT, Nat.reduceBEq, PV.scal, PV.scalL, SV.scal, SV.scalL, Ob.scal, PV.isCell, pure', resO]
      exact finA_val (by simp [retA, rvA, mkE_cons, mk_nil, mkO_cons, mkO_nil, loadA, SV.tr, SV.trL, nmF, rn_nil, rn_cons1, rn_cons2, plainOb, SV.refsL, SV.refs, Ob.refs, X, F, List.range_succ, mkO, setO_mk]) (by simp [SV.tr, SV.trL])
def a_HalvingTree (f_isCount : FuncId) (f_start : FuncId) (f_opened : FuncId) (f_halving : FuncId) (f_tree : FuncId) : AFn := ⟨1, 
  .seq (.reg [⟨some 2, none, .w (.alloc [.nilsl])⟩,
    ⟨some 3, none, .d (.mv (.c (.bool false)))⟩])
  (.seq (.seq (.reg [⟨some 4, none, .d (.mv (.t 0))⟩,
    ⟨some 5, none, .d (.call (.f f_isCount) [(.t 4)])⟩,
    ⟨some 6, none, .d (.not (.t 5))⟩])
  (.cond (.t 6) (.seq (.reg [⟨some 7, none, .d (.build [.nilsl] [])⟩,
     ⟨none, none, .w (.store 1 (.t 2) (.t 7))⟩,
     ⟨some 3, none, .d (.mv (.c (.bool false)))⟩])
   (.ret)) (.skip)))
  (.seq (.reg [⟨some 8, none, .d (.mv (.t 0))⟩,
    ⟨some 9, none, .d (.call (.f f_start) [(.t 8), (.c (.int .i64 0))])⟩,
    ⟨some 10, none, .d (.call (.f f_opened) [(.t 9)])⟩,
    ⟨some 11, none, .d (.call (.f f_halving) [(.t 10)])⟩,
    ⟨some 12, none, .w (.callL (.f f_tree) [(.t 11)] [] 1 false)⟩,
    ⟨none, none, .w (.store 1 (.t 2) (.t 12))⟩,
    ⟨some 3, none, .d (.mv (.c (.bool true)))⟩])
  (.ret))), [.cell 2 1 true, .tmp 3]⟩
def n_HalvingTree : Nat → Option Ann := fun d => if d = 12 then some ⟨[], 1, false⟩ else none
abbrev k_HalvingTree : List Nat := [0, 2, 3, 6]
abbrev o_HalvingTree : List Nat := [2, 12]
def c_HalvingTree : Con := pure' fun
  | [.p (.int .i64 n)] => if (True) then some (.tp [.ag [if isC n = true then .ar 2000000 else .p .nilsl], .p (.bool (isC n))], if isC n = true then [.arr 3 (nds (hvT n))] else []) else none
  | _ => none
theorem s_HalvingTree {P : Program} (hm : P.follows .mixedOrders = true) {Γ : Gam} (hΓ : GS P Γ) {n : FuncId} {f_isCount : FuncId} {f_start : FuncId} {f_opened : FuncId} {f_halving : FuncId} {f_tree : FuncId} (is : Is P n (a_HalvingTree f_isCount f_start f_opened f_halving f_tree)) (h_isCount : Γ f_isCount = c_isCount) (h_start : Γ f_start = c_start) (h_opened : Γ f_opened = c_l2Open) (h_halving : Γ f_halving = c_halving) (h_tree : Γ f_tree = c_tree)  : Says P n c_HalvingTree := by
  refine Says.pure fun args r fs h => ?_
  split at h
  case h_2 => cases h
  rename_i n
  split at h
  case isFalse => cases h
  rename_i hc
  simp only [ofI_ints, ofBo_bools, ofAs_asks, Option.some.injEq, Prod.mk.injEq] at h hc
  obtain ⟨rfl, rfl⟩ := h
  cases hc : isC n with
  | false =>
    have hc2 : (decide (1 ≤ n) && decide (n ≤ 12)) = false := hc
    refine is.go hm hΓ k_HalvingTree o_HalvingTree (by simp [a_HalvingTree]) ?_
    simp only [a_HalvingTree, h_isCount, c_isCount, h_start, c_start, h_opened, c_l2Open, h_halving, c_halving, h_tree, c_tree, hc2, Bool.false_eq_true, List.zipIdx_cons, List.zipIdx_nil, ↓SP, SQ, Gam.add, stepM, callC, argC, lendO, nmBy, nmC, likeL, likeB, plainOb, offs, exL, X, F, trP, trO, stepD, stepW, newA, SV.tr, SV.trL, fz, allP, Ob.tr, loadA, cellsA, SV.cells, binA, binI, eqOut, isSl, isPt, natOf, callee, snap, SV.refsL, SV.refs, thaw, fzAll, loA, hiA, elemOf, partsA, buildA, putCells, ↓reduceIte, reduceCtorEq, okCell, Nat.reduceAdd, Nat.reduceEqDiff, Nat.reduceSub, Nat.reduceMul, Nat.reduceLeDiff, Nat.reduceLT, Nat.reduceBEq, PV.scal, PV.scalL, SV.scal, SV.scalL, Ob.scal, PV.isCell, pure', resO]
    refine finA_gen [] trivial (by simp [retA, rvA, mkE_cons, mk_nil, mkO_cons, mkO_nil, loadA, SV.tr, SV.trL, nmF, rn_nil, rn_cons1, rn_cons2, plainOb, SV.refsL, SV.refs, Ob.refs, X, F, List.range_succ, mkO, setO_mk]; rfl) ?_ ?_ ?_ ?_ ?_ ?_ ?_ <;> simp [retA, rvA, mkE_cons, mk_nil, mkO_cons, mkO_nil, loadA, SV.tr, SV.trL, nmF, rn_nil, rn_cons1, rn_cons2, plainOb, SV.refsL, SV.refs, Ob.refs, X, F, List.range_succ, mkO, setO_mk]
  | true =>
    have hc2 : (decide (1 ≤ n) && decide (n ≤ 12)) = true := hc
    have hb : 1 ≤ n ∧ n ≤ 12 := by simpa using hc2
    have q1 : 0 ≤ n ∧ n ≤ 1100000 := by omega
    have q2 : n.toNat ≤ 1100000 := by omega
    have q3 : numI n = opens (List.replicate n.toNat 0) := rfl
    have q4 := numI_ok hc
    have q5 : trB (hvB (numI n)) 0 = hvT n := rfl
    have hN := hvB_N (l := numI n) (by rw [numI_len]; omega) (by rw [numI_len]; omega)
    rw [numI_len] at hN
    have hr := tree_eq (hvB (numI n)) (by omega)
    rw [q5] at hr
    simp only [if_true]
    refine is.go hm hΓ k_HalvingTree o_HalvingTree (by simp [a_HalvingTree]) ?_
    simp only [a_HalvingTree, h_isCount, c_isCount, h_start, c_start, h_opened, c_l2Open, h_halving, c_halving, h_tree, hr, hc2, q1, q2, ← q3, q4, q5, List.length_replicate, isI_ints, ofI_ints, ints_len, nds_len, allP_map, brV_cs, List.zipIdx_cons, List.zipIdx_nil, ↓SP, SQ, Gam.add, stepM, callC, argC, lendO, nmBy, nmC, likeL, likeB, plainOb, offs, exL, X, F, trP, trO, stepD, stepW, newA, SV.tr, SV.trL, fz, allP, Ob.tr, loadA, cellsA, SV.cells, binA, binI, eqOut, isSl, isPt, natOf, callee, snap, SV.refsL, SV.refs, thaw, fzAll, loA, hiA, elemOf, partsA, buildA, putCells, ↓reduceIte, reduceCtorEq, okCell, Nat.reduceAdd, Nat.reduceEqDiff, Nat.reduceSub, Nat.reduceMul, Nat.reduceLeDiff, Nat.reduceLT, Nat.reduceBEq, PV.scal, PV.scalL, SV.scal, SV.scalL, Ob.scal, PV.isCell, pure', resO]
    refine finA_gen [12] trivial (by simp [retA, rvA, mkE_cons, mk_nil, mkO_cons, mkO_nil, loadA, SV.tr, SV.trL, nmF, rn_nil, rn_cons1, rn_cons2, plainOb, SV.refsL, SV.refs, Ob.refs, X, F, List.range_succ, mkO, setO_mk]; rfl) ?_ ?_ ?_ ?_ ?_ ?_ ?_ <;> simp [retA, rvA, mkE_cons, mk_nil, mkO_cons, mkO_nil, loadA, SV.tr, SV.trL, nmF, rn_nil, rn_cons1, rn_cons2, plainOb, SV.refsL, SV.refs, Ob.refs, X, F, List.range_succ, mkO, setO_mk]
def a_x_HalvingTree (f_s_HalvingTree : FuncId) (f_HalvingTree : FuncId) (f_eqTree : FuncId) (f_markTree : FuncId) (f_heldTree : FuncId) : AFn := ⟨1, 
  .seq (.reg [⟨some 2, none, .d (.mv (.c (.bool false)))⟩])
  (.seq (.reg [⟨some 12, none, .d (.mv (.t 0))⟩,
    ⟨some 13, none, .d (.call (.f f_s_HalvingTree) [(.t 12)])⟩,
    ⟨some 11, none, .d (.mv (.t 13))⟩,
    ⟨some 14, none, .d (.extract (.t 11) 0)⟩,
    ⟨some 15, none, .d (.extract (.t 11) 1)⟩,
    ⟨some 3, none, .w (.alloc [.nilsl])⟩,
    ⟨none, none, .w (.store 1 (.t 3) (.t 14))⟩,
    ⟨some 4, none, .d (.mv (.t 15))⟩])
  (.seq (.reg [⟨some 17, none, .d (.mv (.t 0))⟩,
    ⟨some 18, none, .w (.callL (.f f_HalvingTree) [(.t 17)] [] 1 false)⟩,
    ⟨some 16, none, .d (.mv (.t 18))⟩,
    ⟨some 19, none, .d (.extract (.t 16) 0)⟩,
    ⟨some 20, none, .d (.extract (.t 16) 1)⟩,
    ⟨some 5, none, .w (.alloc [.nilsl])⟩,
    ⟨none, none, .w (.store 1 (.t 5) (.t 19))⟩,
    ⟨some 6, none, .d (.mv (.t 20))⟩])
  (.seq (.seq (.reg [⟨some 21, none, .d (.load true 1 (.t 5))⟩,
    ⟨some 22, none, .d (.load true 1 (.t 3))⟩,
    ⟨some 23, none, .d (.call (.f f_eqTree) [(.t 21), (.t 22)])⟩,
    ⟨some 24, none, .d (.not (.t 23))⟩,
    ⟨some 25, none, .d (.mv (.t 24))⟩,
    ⟨some 26, some (25, false), .d (.mv (.t 6))⟩,
    ⟨some 27, some (25, false), .d (.mv (.t 4))⟩,
    ⟨some 28, some (25, false), .d (.bin .bool .neq (.t 26) (.t 27))⟩,
    ⟨some 29, none, .d (.pick (.t 25) (.c (.bool true)) (.t 28))⟩])
  (.cond (.t 29) (.seq (.reg [⟨some 2, none, .d (.mv (.c (.bool false)))⟩])
   (.ret)) (.skip)))
  (.seq (.reg [⟨some 7, none, .d (.mv (.c (.int .i64 1)))⟩])
  (.seq (.reg [⟨some 30, none, .d (.load true 1 (.t 5))⟩,
    ⟨some 31, none, .d (.mv (.t 7))⟩,
    ⟨some 32, none, .w (.callL (.f f_markTree) [(.t 30), (.t 31)] [18] 0 false)⟩,
    ⟨some 7, none, .d (.mv (.t 32))⟩])
  (.seq (.reg [⟨some 8, none, .d (.mv (.c (.int .i64 1)))⟩])
  (.seq (.reg [⟨some 33, none, .d (.load true 1 (.t 5))⟩,
    ⟨some 34, none, .d (.mv (.t 8))⟩,
    ⟨some 35, none, .d (.call (.f f_heldTree) [(.t 33), (.t 34)])⟩,
    ⟨some 8, none, .d (.mv (.t 35))⟩])
  (.seq (.seq (.reg [⟨some 36, none, .d (.mv (.t 8))⟩,
    ⟨some 37, none, .d (.bin .arith .lss (.t 36) (.c (.int .i64 0)))⟩])
  (.cond (.t 37) (.seq (.reg [⟨some 2, none, .d (.mv (.c (.bool false)))⟩])
   (.ret)) (.skip)))
  (.seq (.seq (.reg [⟨some 38, none, .d (.mv (.t 8))⟩,
    ⟨some 39, none, .d (.mv (.t 7))⟩,
    ⟨some 40, none, .d (.bin .arith .neq (.t 38) (.t 39))⟩])
  (.cond (.t 40) (.seq (.reg [⟨some 2, none, .d (.mv (.c (.bool false)))⟩])
   (.ret)) (.skip)))
  (.seq (.reg [⟨some 42, none, .d (.mv (.t 0))⟩,
    ⟨some 43, none, .d (.call (.f f_HalvingTree) [(.t 42)])⟩,
    ⟨some 41, none, .d (.mv (.t 43))⟩,
    ⟨some 44, none, .d (.extract (.t 41) 0)⟩,
    ⟨some 45, none, .d (.extract (.t 41) 1)⟩,
    ⟨some 9, none, .w (.alloc [.nilsl])⟩,
    ⟨none, none, .w (.store 1 (.t 9) (.t 44))⟩,
    ⟨some 10, none, .d (.mv (.t 45))⟩])
  (.seq (.seq (.reg [⟨some 46, none, .d (.load true 1 (.t 9))⟩,
    ⟨some 47, none, .d (.load true 1 (.t 3))⟩,
    ⟨some 48, none, .d (.call (.f f_eqTree) [(.t 46), (.t 47)])⟩,
    ⟨some 49, none, .d (.not (.t 48))⟩,
    ⟨some 50, none, .d (.mv (.t 49))⟩,
    ⟨some 51, some (50, false), .d (.mv (.t 10))⟩,
    ⟨some 52, some (50, false), .d (.mv (.t 4))⟩,
    ⟨some 53, some (50, false), .d (.bin .bool .neq (.t 51) (.t 52))⟩,
    ⟨some 54, none, .d (.pick (.t 50) (.c (.bool true)) (.t 53))⟩])
  (.cond (.t 54) (.seq (.reg [⟨some 2, none, .d (.mv (.c (.bool false)))⟩])
   (.ret)) (.skip)))
  (.seq (.reg [⟨some 8, none, .d (.mv (.c (.int .i64 1)))⟩])
  (.seq (.reg [⟨some 55, none, .d (.load true 1 (.t 5))⟩,
    ⟨some 56, none, .d (.mv (.t 8))⟩,
    ⟨some 57, none, .d (.call (.f f_heldTree) [(.t 55), (.t 56)])⟩,
    ⟨some 8, none, .d (.mv (.t 57))⟩])
  (.seq (.seq (.reg [⟨some 58, none, .d (.mv (.t 8))⟩,
    ⟨some 59, none, .d (.bin .arith .lss (.t 58) (.c (.int .i64 0)))⟩])
  (.cond (.t 59) (.seq (.reg [⟨some 2, none, .d (.mv (.c (.bool false)))⟩])
   (.ret)) (.skip)))
  (.seq (.seq (.reg [⟨some 60, none, .d (.mv (.t 8))⟩,
    ⟨some 61, none, .d (.mv (.t 7))⟩,
    ⟨some 62, none, .d (.bin .arith .neq (.t 60) (.t 61))⟩])
  (.cond (.t 62) (.seq (.reg [⟨some 2, none, .d (.mv (.c (.bool false)))⟩])
   (.ret)) (.skip)))
  (.seq (.reg [⟨some 2, none, .d (.mv (.c (.bool true)))⟩])
  (.ret))))))))))))))))), [.tmp 2]⟩
def n_x_HalvingTree : Nat → Option Ann := fun d => if d = 18 then some ⟨[], 1, false⟩ else if d = 32 then some ⟨[18], 0, false⟩ else none
abbrev k_x_HalvingTree : List Nat := [0, 2, 3, 4, 5, 6, 7, 8, 9, 10, 29, 37, 40, 54, 59, 62]
abbrev o_x_HalvingTree : List Nat := [3, 5, 9, 18]
def c_x_HalvingTree : Con := pure' fun
  | [.p (.int .i64 n)] => if (True) then some (.p (.bool true), []) else none
  | _ => none
theorem s_x_HalvingTree {P : Program} (hm : P.follows .mixedOrders = true) {Γ : Gam} (hΓ : GS P Γ) {n : FuncId} {f_s_HalvingTree : FuncId} {f_HalvingTree : FuncId} {f_eqTree : FuncId} {f_markTree : FuncId} {f_heldTree : FuncId} (is : Is P n (a_x_HalvingTree f_s_HalvingTree f_HalvingTree f_eqTree f_markTree f_heldTree)) (h_s_HalvingTree : Γ f_s_HalvingTree = c_s_HalvingTree) (h_HalvingTree : Γ f_HalvingTree = c_HalvingTree) (h_eqTree : Γ f_eqTree = c_eqTree) (h_markTree : Γ f_markTree = c_markTree) (h_heldTree : Γ f_heldTree = c_heldTree)  : Says P n c_x_HalvingTree := by
  refine Says.pure fun args r fs h => ?_
  split at h
  case h_2 => cases h
  rename_i n
  split at h
  case isFalse => cases h
  rename_i hc
  simp only [ofI_ints, ofBo_bools, ofAs_asks, Option.some.injEq, Prod.mk.injEq] at h hc
  obtain ⟨rfl, rfl⟩ := h
  cases hok : isC n with
  | true =>
    obtain ⟨L, hL⟩ : ∃ L, hvT n = L := ⟨_, rfl⟩
    have q4 : L.length ≤ 1100000 := by have := hvT_len hok; rw [hL] at this; omega
    have hmy := marksN_len 1 L.length
    have hhy := heldN_marks 1 L.length
    have hi := isNs_nds L
    have q3 : ¬ (1 : Int) + 3 * (L.length : Int) < 0 := by omega
    refine is.go hm hΓ k_x_HalvingTree o_x_HalvingTree (by simp [a_x_HalvingTree]) ?_
    simp only [a_x_HalvingTree, h_s_HalvingTree, c_s_HalvingTree, h_HalvingTree, c_HalvingTree, h_eqTree, c_eqTree, h_markTree, c_markTree, h_heldTree, c_heldTree, hok, hL, q3, q4, hmy, hhy, hi, nds_len, ofNs_nds, slN_sl, beq_self_eq_true, Bool.not_true, Int.reduceLE, Int.reduceNeg, Int.reduceLT, bne_self_eq_false, List.zipIdx_cons, List.zipIdx_nil, ↓SP, SQ, Gam.add, stepM, callC, argC, lendO, nmBy, nmC, likeL, likeB, plainOb, offs, exL, X, F, trP, trO, stepD, stepW, newA, SV.tr, SV.trL, fz, allP, Ob.tr, loadA, cellsA, SV.cells, binA, binI, eqOut, isSl, isPt, natOf, callee, snap, SV.refsL, SV.refs, thaw, fzAll, loA, hiA, elemOf, partsA, buildA, putCells, ↓reduceIte, reduceCtorEq, okCell, Nat.reduceAdd, Nat.reduceEqDiff, Nat.reduceSub, Nat.reduceMul, Nat.reduceLeDiff, Nat.reduceLT, Nat.reduceBEq, PV.scal, PV.scalL, SV.scal, SV.scalL, Ob.scal, PV.isCell, pure', resO]
    exact finA_val (by simp [retA, rvA, mkE_cons, mk_nil, mkO_cons, mkO_nil, loadA, SV.tr, SV.trL, nmF, rn_nil, rn_cons1, rn_cons2, plainOb, SV.refsL, SV.refs, Ob.refs, X, F, List.range_succ, mkO, setO_mk]) (by simp [SV.tr, SV.trL])
  | false =>
    have hnb : heldN [] 1 := fun j hj => by simp at hj
    refine is.go hm hΓ k_x_HalvingTree o_x_HalvingTree (by simp [a_x_HalvingTree]) ?_
    simp only [a_x_HalvingTree, h_s_HalvingTree, c_s_HalvingTree, h_HalvingTree, c_HalvingTree, h_eqTree, c_eqTree, h_markTree, c_markTree, h_heldTree, c_heldTree, hok, hnb, slN_nil, Bool.false_eq_true, beq_self_eq_true, Bool.not_true, Int.reduceLE, Int.reduceNeg, Int.reduceLT, bne_self_eq_false, List.zipIdx_cons, List.zipIdx_nil, ↓SP, SQ, Gam.add, stepM, callC, argC, lendO, nmBy, nmC, likeL, likeB, plainOb, offs, exL, X, F, trP, trO, stepD, stepW, newA, SV.tr, SV.trL, fz, allP, Ob.tr, loadA, cellsA, SV.cells, binA, binI, eqOut, isSl, isPt, natOf, callee, snap, SV.refsL, SV.refs, thaw, fzAll, loA, hiA, elemOf, partsA, buildA, putCells, ↓reduceIte, reduceCtorEq, okCell, Nat.reduceAdd, Nat.reduceEqDiff, Nat.reduceSub, Nat.reduceMul, Nat.reduceLeDiff, Nat.reduceLT, Nat.reduceBEq, PV.scal, PV.scalL, SV.scal, SV.scalL, Ob.scal, PV.isCell, pure', resO]
    exact finA_val (by simp [retA, rvA, mkE_cons, mk_nil, mkO_cons, mkO_nil, loadA, SV.tr, SV.trL, nmF, rn_nil, rn_cons1, rn_cons2, plainOb, SV.refsL, SV.refs, Ob.refs, X, F, List.range_succ, mkO, setO_mk]) (by simp [SV.tr, SV.trL])
end Go.Proofs.Ytnjdlhinekfghaa.Pam
