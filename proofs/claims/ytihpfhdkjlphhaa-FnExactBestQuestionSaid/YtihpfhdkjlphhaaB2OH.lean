/- A part of the proof that stands in this folder: a small machine whose steps are shown to be the steps of the model, or walks of functions by it. No condition of its own. -/
import Derived.Test.YtihpfhdkjlphhaaB2MP
set_option linter.unusedVariables false
set_option linter.unusedSimpArgs false
namespace Go.Proofs.Ytihpfhdkjlphhaa.Pam
open Go
def lsOf (xs : List PV) : List (List Int) := xs.map fun
  | .sl _ ys => ofI ys
  | _ => []
theorem lsOf_sls (L : List (List Int)) : lsOf (sls L) = L := by
  simp only [lsOf, sls, List.map_map]
  have : ((fun x : PV => match x with | .sl _ ys => ofI ys | _ => []) ∘ fun l : List Int => PV.sl 1 (ints l)) = id := by funext l; simp [ofI_ints]
  rw [this, List.map_id]
theorem sls_set (L : List (List Int)) (i : Nat) (l : List Int) : (sls L).set i (.sl 1 (ints l)) = sls (L.set i l) := by simp [sls, List.map_set]
theorem putPV_sls (L : List (List Int)) (i n : Nat) (h : i + n ≤ L.length) : putPV (sls L) i (List.replicate n .nilsl) = sls (L.take i) ++ List.replicate n .nilsl ++ sls (L.drop (i + n)) := by
  rw [putPV_eq _ _ _ (by simp [sls_len]; omega)]
  simp [sls, List.map_take, List.map_drop]
def a_DelS (f_IndexFuncS : FuncId) : AFn := ⟨2, 
  .seq (.reg [⟨some 4, none, .d (.mv (.c (.nilsl)))⟩])
  (.seq (.reg [⟨some 8, none, .d (.mv (.t 0))⟩,
    ⟨some 9, none, .d (.mv (.t 1))⟩,
    ⟨some 10, none, .d (.call (.f f_IndexFuncS) [(.t 8), (.t 9)])⟩,
    ⟨some 5, none, .d (.mv (.t 10))⟩])
  (.seq (.seq (.reg [⟨some 11, none, .d (.mv (.t 5))⟩,
    ⟨some 12, none, .d (.bin .arith .eql (.t 11) (.c (.int .i64 (-1))))⟩])
  (.cond (.t 12) (.seq (.reg [⟨some 13, none, .d (.mv (.t 0))⟩,
     ⟨some 4, none, .d (.mv (.t 13))⟩])
   (.ret)) (.skip)))
  (.seq (.seq (.reg [⟨some 14, none, .d (.mv (.t 5))⟩,
    ⟨some 15, none, .d (.bin .arith .add (.t 14) (.c (.int .i64 1)))⟩,
    ⟨some 6, none, .d (.mv (.t 15))⟩])
  (.block 0 (.loop (.seq (.seq (.reg [⟨some 16, none, .d (.mv (.t 6))⟩,
      ⟨some 17, none, .d (.mv (.t 0))⟩,
      ⟨some 18, none, .d (.len (.t 17))⟩,
      ⟨some 19, none, .d (.bin .arith .lss (.t 16) (.t 18))⟩])
    (.cond (.t 19) (.skip) (.exit 0)))
    (.seq (.block 1 (.seq (.reg [⟨some 22, none, .d (.mv (.t 0))⟩,
       ⟨some 23, none, .d (.mv (.t 6))⟩,
       ⟨some 24, none, .d (.ia 1 (.t 22) (.t 23))⟩,
       ⟨some 25, none, .d (.load false 1 (.t 24))⟩,
       ⟨some 7, none, .d (.mv (.t 25))⟩])
     (.seq (.reg [⟨some 26, none, .d (.mv (.t 1))⟩,
       ⟨some 27, none, .d (.mv (.t 7))⟩,
       ⟨some 28, none, .d (.call (.t 26) [(.t 27)])⟩,
       ⟨some 29, none, .d (.not (.t 28))⟩])
     (.cond (.t 29) (.seq (.reg [⟨some 30, none, .d (.mv (.t 0))⟩,
        ⟨some 31, none, .d (.mv (.t 5))⟩,
        ⟨some 32, none, .d (.mv (.t 7))⟩,
        ⟨some 33, none, .d (.ia 1 (.t 30) (.t 31))⟩,
        ⟨none, none, .w (.store 1 (.t 33) (.t 32))⟩])
      (.reg [⟨some 34, none, .d (.mv (.t 5))⟩,
        ⟨some 35, none, .d (.bin .arith .add (.t 34) (.c (.int .i64 1)))⟩,
        ⟨some 5, none, .d (.mv (.t 35))⟩])) (.skip)))))
    (.reg [⟨some 20, none, .d (.mv (.t 6))⟩,
      ⟨some 21, none, .d (.bin .arith .add (.t 20) (.c (.int .i64 1)))⟩,
      ⟨some 6, none, .d (.mv (.t 21))⟩]))))))
  (.seq (.reg [⟨some 36, none, .d (.mv (.t 0))⟩,
    ⟨some 37, none, .d (.mv (.t 5))⟩,
    ⟨some 38, none, .d (.slc 1 (.t 36) (some (.t 37)) none)⟩,
    ⟨none, none, .w (.clear 1 (.nilsl) (.t 38))⟩])
  (.seq (.reg [⟨some 39, none, .d (.mv (.t 0))⟩,
    ⟨some 40, none, .d (.mv (.t 5))⟩,
    ⟨some 41, none, .d (.slc 1 (.t 39) none (some (.t 40)))⟩,
    ⟨some 4, none, .d (.mv (.t 41))⟩])
  (.ret)))))), [.tmp 4]⟩
def n_DelS : Nat → Option Ann := fun _ => none
abbrev k_DelS : List Nat := [0, 1, 4, 5, 6, 7, 12, 19, 29]
abbrev o_DelS : List Nat := []
def c_DelS (Γ0 Γ1 : Gam) : Con
  | [.ar 1000000, .p (.fn g a b)], [.arr 1 xs] => if isS xs = true ∧ xs.length ≤ 1100000 then (match askF Γ0 g a b xs, askF Γ1 g a b xs with
      | some bs, some bs' => if bs = bs' ∧ bs.any id = true then some (.sub 1000000 0 (kpI [] (lsOf xs) bs xs.length).length, [.arr 1 (sls (kpI [] (lsOf xs) bs xs.length) ++ List.replicate (xs.length - (kpI [] (lsOf xs) bs xs.length).length) .nilsl)], []) else none
      | _, _ => none) else none
  | _, _ => none
theorem s_DelS {P : Program} (hm : P.follows .mixedOrders = true) {Γ : Gam} (hΓ : GS P Γ) {n : FuncId} {f_IndexFuncS : FuncId} (is : Is P n (a_DelS f_IndexFuncS)) {Γ0 : Gam} (h_IndexFuncS : Γ f_IndexFuncS = c_IndexFuncS Γ0) : Says P n (c_DelS Γ0 Γ) := by
  intro args ext r ext' fs h
  unfold c_DelS at h
  split at h
  case h_2 => cases h
  rename_i g a b xs
  split at h
  case isFalse => cases h
  rename_i hc
  obtain ⟨hx, hn⟩ := hc
  obtain ⟨L, rfl⟩ := isS_out hx
  rw [sls_len] at hn
  split at h
  case h_2 => cases h
  rename_i bs bs' hbs hbs'
  split at h
  case isFalse => cases h
  rename_i hc2
  obtain ⟨rfl, hany⟩ := hc2
  simp only [lsOf_sls, Option.some.injEq, Prod.mk.injEq, sls_len] at h
  obtain ⟨rfl, rfl, rfl⟩ := h
  have hbl := askF_len hbs
  rw [sls_len] at hbl
  obtain ⟨i0, hi0, hf, hpre, hat⟩ := firstT_out hany
  rw [hbl] at hi0
  have hm1 : ((i0 : Int) == -1) = false := beq_eq_false_iff_ne.2 (by omega)
  have hw0 := wrap_one (i := i0) (by omega)
  have hk0 : kpI [] L bs (i0 + 1) = L.take i0 := by rw [kpI_no hat, kpI_all (by omega) hpre]
  have hk0l : (kpI [] L bs (i0 + 1)).length = i0 := by rw [hk0]; simp; omega
  have hstart : kpI [] L bs (i0 + 1) ++ L.drop (kpI [] L bs (i0 + 1)).length = L := by rw [hk0l, hk0, List.take_append_drop]
  refine is.goX hm hΓ k_DelS (1000000 :: o_DelS) (by simp [a_DelS]) (by simp) ?_
  simp only [a_DelS, h_IndexFuncS, c_IndexFuncS, hbs, hf, hm1, hw0, hx, hn, sls_len, List.zipIdx_cons, List.zipIdx_nil, ↓SP, SQ, Gam.add, stepM, callC, argC, lendO, nmBy, nmC, likeL, likeB, plainOb, offs, exL, X, F, trP, trO, stepD, stepW, newA, SV.tr, SV.trL, fz, allP, Ob.tr, loadA, cellsA, SV.cells, binA, binI, eqOut, isSl, isPt, natOf, callee, snap, SV.refsL, SV.refs, thaw, fzAll, loA, hiA, elemOf, partsA, buildA, putCells, ↓reduceIte, reduceCtorEq, okCell, Nat.reduceAdd, Nat.reduceEqDiff, Nat.reduceSub, Nat.reduceMul, Nat.reduceLeDiff, Nat.reduceLT, Nat.reduceBEq, PV.scal, PV.scalL, SV.scal, SV.scalL, Ob.scal, PV.isCell, pure', resO]
  refine loop_at (fun st : J => mkEnv [(0, .ar 1000000), (1, .p (.fn g a b)), (4, .p .nilsl), (5, si (kpI [] L bs st.i).length), (6, si st.i), (7, st.a), (12, sb false), (19, st.b), (29, st.c)]) (fun st => mkO [(1000000, some (.arr 1 (sls (kpI [] L bs st.i ++ L.drop (kpI [] L bs st.i).length))))]) (fun st => st.i ≤ L.length) (fun st => L.length - st.i) ⟨i0 + 1, .junk, .junk, .junk, .junk, .junk, .junk, .junk, .junk, .junk, .junk, .junk, .junk, none, none, none⟩ (by simp only; omega) (by simp only [hk0l]; try rfl) (by simp only [hstart]; try rfl) ?_
  rintro ⟨j, c1, c2, c3, c4, c5, c6, c7, c8, c9, c10, c11, c12, o1, o2, o3⟩ hj R hR hN
  simp only at hj
  have hmm := kpI_len [] L bs j
  have hkl := kd_len (d := []) (bs := bs) hj
  by_cases h : j < L.length
  · have h1 : (j : Int) < L.length := by omega
    have hw := wrap_one (i := j) (by omega)
    have hkg := kd_get (d := []) (bs := bs) h
    have hgL := sls_get h
    have hg := sls_get (L := kpI [] L bs j ++ L.drop (kpI [] L bs j).length) (i := j) (by rw [hkl]; exact h)
    rw [hkg] at hg
    obtain ⟨l, hl⟩ : ∃ l, L.getD j [] = l := ⟨_, rfl⟩
    rw [hl] at hgL hg
    have q3 : (kpI [] L bs j).length < L.length := by omega
    have hq := askF_get hbs' hgL
    have hwm := wrap_one (i := (kpI [] L bs j).length) (by omega)
    cases hb : bs.getD j false with
    | false =>
      rw [hb] at hq
      have hset : (kpI [] L bs j ++ L.drop (kpI [] L bs j).length).set (kpI [] L bs j).length l = kpI [] L bs (j + 1) ++ L.drop (kpI [] L bs (j + 1)).length := by
        rw [← hl]; exact kd_set h hb
      have hlen1 : (kpI [] L bs (j + 1)).length = (kpI [] L bs j).length + 1 := by rw [kpI_yes hb]; simp
      obtain ⟨e1, he1⟩ : ∃ e, (sls (kpI [] L bs j ++ L.drop (kpI [] L bs j).length))[(kpI [] L bs j).length]? = some e := ⟨_, List.getElem?_eq_getElem (by rw [sls_len, hkl]; exact q3)⟩
      simp only [h, h1, hw, hg, hkl, q3, he1, sls_set, hset, hwm, ← hlen1, call_ps, refs_ps, hq, sls_len, Nat.zero_add, ↓SP, SQ, Gam.add, stepM, callC, argC, lendO, nmBy, nmC, likeL, likeB, plainOb, offs, exL, X, F, trP, trO, stepD, stepW, newA, SV.tr, SV.trL, fz, allP, Ob.tr, loadA, cellsA, SV.cells, binA, binI, eqOut, isSl, isPt, natOf, callee, snap, SV.refsL, SV.refs, thaw, fzAll, loA, hiA, elemOf, partsA, buildA, putCells, ↓reduceIte, reduceCtorEq, okCell, Nat.reduceAdd, Nat.reduceEqDiff, Nat.reduceSub, Nat.reduceMul, Nat.reduceLeDiff, Nat.reduceLT, Nat.reduceBEq, PV.scal, PV.scalL, SV.scal, SV.scalL, Ob.scal, PV.isCell, pure', resO]
      exact hN ⟨j + 1, _, _, _, .junk, .junk, .junk, .junk, .junk, .junk, .junk, .junk, .junk, none, none, none⟩ _ _ (by simp only; omega) (by simp only; omega) rfl rfl
    | true =>
      rw [hb] at hq
      have hsame := kpI_no (d := []) (L := L) hb
      simp only [h, h1, hw, hg, hkl, call_ps, refs_ps, hq, sls_len, Nat.zero_add, ↓SP, SQ, Gam.add, stepM, callC, argC, lendO, nmBy, nmC, likeL, likeB, plainOb, offs, exL, X, F, trP, trO, stepD, stepW, newA, SV.tr, SV.trL, fz, allP, Ob.tr, loadA, cellsA, SV.cells, binA, binI, eqOut, isSl, isPt, natOf, callee, snap, SV.refsL, SV.refs, thaw, fzAll, loA, hiA, elemOf, partsA, buildA, putCells, ↓reduceIte, reduceCtorEq, okCell, Nat.reduceAdd, Nat.reduceEqDiff, Nat.reduceSub, Nat.reduceMul, Nat.reduceLeDiff, Nat.reduceLT, Nat.reduceBEq, PV.scal, PV.scalL, SV.scal, SV.scalL, Ob.scal, PV.isCell, pure', resO]
      exact hN ⟨j + 1, _, _, _, .junk, .junk, .junk, .junk, .junk, .junk, .junk, .junk, .junk, none, none, none⟩ _ _ (by simp only; omega) (by simp only; omega) (by rw [hsame]) (by rw [hsame])
  · have he : j = L.length := by omega
    have h1 : ¬ (j : Int) < L.length := by omega
    subst he
    have hcl : putPV (sls (kpI [] L bs L.length ++ L.drop (kpI [] L bs L.length).length)) (kpI [] L bs L.length).length (List.replicate (L.length - (kpI [] L bs L.length).length) .nilsl) = sls (kpI [] L bs L.length) ++ List.replicate (L.length - (kpI [] L bs L.length).length) .nilsl := by
      rw [putPV_sls _ _ _ (by rw [hkl]; omega)]
      have e1 : (kpI [] L bs L.length).length + (L.length - (kpI [] L bs L.length).length) = L.length := by omega
      rw [e1, List.take_left, List.drop_of_length_le (by rw [hkl]; exact Nat.le_refl _)]
      simp [sls]
    have hdl : (sls (kpI [] L bs L.length) ++ List.replicate (L.length - (kpI [] L bs L.length).length) PV.nilsl).length = L.length := by simp [sls_len]; omega
    simp only [h1, hkl, sls_len, ↓SP, SQ, Gam.add, stepM, callC, argC, lendO, nmBy, nmC, likeL, likeB, plainOb, offs, exL, X, F, trP, trO, stepD, stepW, newA, SV.tr, SV.trL, fz, allP, Ob.tr, loadA, cellsA, SV.cells, binA, binI, eqOut, isSl, isPt, natOf, callee, snap, SV.refsL, SV.refs, thaw, fzAll, loA, hiA, elemOf, partsA, buildA, putCells, ↓reduceIte, reduceCtorEq, okCell, Nat.reduceAdd, Nat.reduceEqDiff, Nat.reduceSub, Nat.reduceMul, Nat.reduceLeDiff, Nat.reduceLT, Nat.reduceBEq, PV.scal, PV.scalL, SV.scal, SV.scalL, Ob.scal, PV.isCell, pure', resO]
    refine hR _ _ _ (by intro h; cases h) ?_
    simp only [hkl, hmm, hcl, hdl, sls_len, Nat.zero_add, Nat.sub_zero, ↓SP, SQ, Gam.add, stepM, callC, argC, lendO, nmBy, nmC, likeL, likeB, plainOb, offs, exL, X, F, trP, trO, stepD, stepW, newA, SV.tr, SV.trL, fz, allP, Ob.tr, loadA, cellsA, SV.cells, binA, binI, eqOut, isSl, isPt, natOf, callee, snap, SV.refsL, SV.refs, thaw, fzAll, loA, hiA, elemOf, partsA, buildA, putCells, ↓reduceIte, reduceCtorEq, okCell, Nat.reduceAdd, Nat.reduceEqDiff, Nat.reduceSub, Nat.reduceMul, Nat.reduceLeDiff, Nat.reduceLT, Nat.reduceBEq, PV.scal, PV.scalL, SV.scal, SV.scalL, Ob.scal, PV.isCell, pure', resO]
    refine finA_gen [] trivial (by simp [retA, rvA, mkE_cons, mk_nil, mkO_cons, mkO_nil, loadA, SV.tr, SV.trL, nmF, rn_nil, rn_cons1, rn_cons2, plainOb, SV.refsL, SV.refs, Ob.refs, X, F, List.range_succ, mkO, setO_mk]; rfl) ?_ ?_ ?_ ?_ ?_ ?_ ?_ <;> simp [retA, rvA, mkE_cons, mk_nil, mkO_cons, mkO_nil, loadA, SV.tr, SV.trL, nmF, rn_nil, rn_cons1, rn_cons2, plainOb, SV.refsL, SV.refs, Ob.refs, X, F, List.range_succ, mkO, setO_mk]
def a_best1 (f_nSplit : FuncId) : AFn := ⟨4, 
  .seq (.reg [⟨some 5, none, .d (.mv (.c (.bool false)))⟩])
  (.seq (.dreg [] [([], ⟨some 6, none, .d (.load true 2 (.t 1))⟩),
    ([], ⟨some 7, none, .d (.load false 1 (.t 2))⟩),
    ([], ⟨some 8, none, .d (.mv (.t 0))⟩),
    ([], ⟨some 9, none, .d (.call (.f f_nSplit) [(.t 6), (.t 7), (.t 8)])⟩),
    ([], ⟨some 10, none, .d (.load false 1 (.t 3))⟩)] [⟨some 11, none, .d (.bin .arith .neq (.t 9) (.t 10))⟩,
    ⟨some 5, none, .d (.mv (.t 11))⟩])
  (.ret)), [.tmp 5]⟩
def n_best1 : Nat → Option Ann := fun _ => none
abbrev k_best1 : List Nat := [0, 1, 2, 3, 5]
abbrev o_best1 : List Nat := []
noncomputable def c_best1 (Γ2 : Gam) : Con := pure' fun
  | [.p (.sl 1 s_), .p (.cp [.fn g [] [], .mapv es]), .p (.cp [.sl 1 c_]), .p (.cp [.int .i64 nd])] =>
    (match c_nSplit Γ2 [.p (.agg [.fn g [] [], .mapv es]), .p (.sl 1 c_), .p (.sl 1 s_)] [] with
      | some (.p (.int .i64 v), [], []) => some (.p (.bool (v != nd)), [])
      | _ => none)
  | _ => none
theorem s_best1 {P : Program} (hm : P.follows .mixedOrders = true) {Γ : Gam} (hΓ : GS P Γ) {n : FuncId} {f_nSplit : FuncId} (is : Is P n (a_best1 f_nSplit)) {Γ2 : Gam} (h_nSplit : Γ f_nSplit = c_nSplit Γ2) : Says P n (c_best1 Γ2) := by
  refine Says.pure fun args r fs h => ?_
  split at h
  case h_2 => cases h
  rename_i s_ g es c_ nd
  split at h
  case h_2 => cases h
  rename_i v hv
  simp only [Option.some.injEq, Prod.mk.injEq] at h
  obtain ⟨rfl, rfl⟩ := h
  refine is.go hm hΓ k_best1 o_best1 (by simp [a_best1]) ?_
  simp only [a_best1, h_nSplit, hv, List.zipIdx_cons, List.zipIdx_nil, ↓SP, SQ, Gam.add, stepM, callC, argC, lendO, nmBy, nmC, likeL, likeB, plainOb, offs, exL, X, F, trP, trO, stepD, stepW, newA, SV.tr, SV.trL, fz, allP, Ob.tr, loadA, cellsA, SV.cells, binA, binI, eqOut, isSl, isPt, natOf, callee, snap, SV.refsL, SV.refs, thaw, fzAll, loA, hiA, elemOf, partsA, buildA, putCells, ↓reduceIte, reduceCtorEq, okCell, Nat.reduceAdd, Nat.reduceEqDiff, Nat.reduceSub, Nat.reduceMul, Nat.reduceLeDiff, Nat.reduceLT, Nat.reduceBEq, PV.scal, PV.scalL, SV.scal, SV.scalL, Ob.scal, PV.isCell, pure', resO]
  exact finA_val (by simp [retA, rvA, mkE_cons, mk_nil, mkO_cons, mkO_nil, loadA, SV.tr, SV.trL, nmF, rn_nil, rn_cons1, rn_cons2, plainOb, SV.refsL, SV.refs, Ob.refs, X, F, List.range_succ, mkO, setO_mk]) (by simp [SV.tr, SV.trL])
/-- Whether a split has the need of counts. -/
noncomputable def beQ (Γ2 : Gam) (g : FuncId) (es : List (PV × PV)) (c s : List Int) : Bool := decide (1 + mxI (ofE es (ruleY Γ2 g c s)) (ofE es (noL c s)) = ofE es c)
noncomputable def beL (Γ2 : Gam) (g : FuncId) (es : List (PV × PV)) (c : List Int) : List (List Int) := (splL c).filter (beQ Γ2 g es c)
def a_nBest (f_nOf : FuncId) (f_splits : FuncId) (f_best1 : FuncId) (f_DelS : FuncId) : AFn := ⟨2, 
  .seq (.reg [⟨some 2, none, .w (.box 2 (.t 0))⟩,
    ⟨some 3, none, .w (.box 1 (.t 1))⟩,
    ⟨some 4, none, .d (.mv (.c (.nilsl)))⟩])
  (.seq (.reg [⟨some 6, none, .d (.load true 2 (.t 2))⟩,
    ⟨some 7, none, .d (.load false 1 (.t 3))⟩,
    ⟨some 8, none, .d (.call (.f f_nOf) [(.t 6), (.t 7)])⟩,
    ⟨some 5, none, .w (.alloc [.int .i64 0])⟩,
    ⟨none, none, .w (.store 1 (.t 5) (.t 8))⟩])
  (.seq (.reg [⟨some 9, none, .d (.load false 1 (.t 3))⟩,
    ⟨some 10, none, .w (.callL (.f f_splits) [(.t 9)] [] 1 false)⟩,
    ⟨some 11, none, .d (.mkfn f_best1 [] [(.t 2), (.t 3), (.t 5)])⟩,
    ⟨some 12, none, .w (.callL (.f f_DelS) [(.t 10), (.t 11)] [10] 0 true)⟩,
    ⟨some 4, none, .d (.mv (.t 12))⟩])
  (.ret))), [.tmp 4]⟩
def n_nBest : Nat → Option Ann := fun d => if d = 10 then some ⟨[], 1, false⟩ else if d = 12 then some ⟨[10], 0, true⟩ else none
abbrev k_nBest : List Nat := [0, 1, 2, 3, 4, 5]
abbrev o_nBest : List Nat := [2, 3, 5, 10]
open Classical in
noncomputable def c_nBest (Γ2 : Gam) : Con := pure' fun
  | [.p (.agg [.fn g [] [], .mapv es]), .p (.sl 1 c_)] =>
    if (Γ2 g = c_bothWays ∨ Γ2 g = c_oneWay) ∧ okE es = true ∧ isI c_ = true ∧ okC (ofI c_) = true ∧ ((splL (ofI c_)).any fun s => !beQ Γ2 g es (ofI c_) s) = true then
      some (.sub 2000000 0 (beL Γ2 g es (ofI c_)).length, [.arr 1 (sls (beL Γ2 g es (ofI c_)) ++ List.replicate ((splL (ofI c_)).length - (beL Γ2 g es (ofI c_)).length) .nilsl)])
    else none
  | _ => none
theorem ask_best1 {Γ0 Γ2 : Gam} {f_best1 g : FuncId} {es : List (PV × PV)} {c : List Int} (h : Γ0 f_best1 = c_best1 Γ2) (hg : Γ2 g = c_bothWays ∨ Γ2 g = c_oneWay) (hE : okE es = true) (hc : okC c = true) :
    askF Γ0 f_best1 [] [.cp [.fn g [] [], .mapv es], .cp [.sl 1 (ints c)], .cp [.int .i64 (ofE es c)]] (sls (splL c)) = some ((splL c).map fun s => !beQ Γ2 g es c s) := by
  obtain ⟨⟨l1, l3⟩, h8, _⟩ := okC_out hc
  refine askF_eq fun s hs => ?_
  have hsl := spl_len hs
  have hs8 := spl_in8 h8 hs
  have hb1 : bd 1000 c = true := bd_in8 h8 (by omega)
  have hb2 : bd 1000 s = true := bd_in8 hs8 (by omega)
  have hq : (1 + mxI (ofE es (ruleY Γ2 g c s)) (ofE es (noL c s)) != ofE es c) = !beQ Γ2 g es c s := by
    simp only [beQ, bne]
    congr 1
  rw [h]
  simp only [List.nil_append, List.cons_append, List.map_cons, List.map_nil, c_best1, pure', c_nSplit, hg, hE, isI_ints, ofI_ints, ints_len, l1, l3, hsl, hb1, hb2, and_self, if_true, Option.map_some, hq]
theorem s_nBest {P : Program} (hm : P.follows .mixedOrders = true) {Γ : Gam} (hΓ : GS P Γ) {n : FuncId} {f_nOf : FuncId} {f_splits : FuncId} {f_best1 : FuncId} {f_DelS : FuncId} (is : Is P n (a_nBest f_nOf f_splits f_best1 f_DelS)) (h_nOf : Γ f_nOf = c_nOf) (h_splits : Γ f_splits = c_splits) {Γ0 Γ1 Γ2 : Gam} (h_DelS : Γ f_DelS = c_DelS Γ0 Γ1) (h_best1a : Γ0 f_best1 = c_best1 Γ2) (h_best1b : Γ1 f_best1 = c_best1 Γ2) : Says P n (c_nBest Γ2) := by
  refine Says.pure fun args r fs h => ?_
  split at h
  case h_2 => cases h
  rename_i g es c_
  split at h
  case isFalse => cases h
  rename_i hc
  obtain ⟨hg, hE, hc_, hok, hany⟩ := hc
  obtain ⟨c, rfl⟩ := isI_out hc_
  rw [ofI_ints] at hok hany
  simp only [ofI_ints, Option.some.injEq, Prod.mk.injEq] at h
  obtain ⟨rfl, rfl⟩ := h
  obtain ⟨⟨l1, l3⟩, h8, _⟩ := okC_out hok
  have hsl := spI_len3 h8 l3
  have hsl2 : (splL c).length ≤ 1100000 := Nat.le_trans hsl (by omega)
  have a0 := ask_best1 h_best1a hg hE hok
  have a1 := ask_best1 h_best1b hg hE hok
  have hany2 : (((splL c).map fun s => !beQ Γ2 g es c s).any id) = true := by rw [List.any_map]; exact hany
  have hkp : kpI [] (splL c) ((splL c).map fun s => !beQ Γ2 g es c s) (splL c).length = beL Γ2 g es c := by
    rw [kpI_filter _ _ (Nat.le_refl _), List.take_length, beL]
    congr 1; funext s; simp
  have hdel : c_DelS Γ0 Γ1 [.ar 1000000, .p (.fn f_best1 [] [.cp [.fn g [] [], .mapv es], .cp [.sl 1 (ints c)], .cp [.int .i64 (ofE es c)]])] [.arr 1 (sls (splL c))] = some (.sub 1000000 0 (beL Γ2 g es c).length, [.arr 1 (sls (beL Γ2 g es c) ++ List.replicate ((splL c).length - (beL Γ2 g es c).length) .nilsl)], []) := by
    simp only [c_DelS, isS_sls, sls_len, hsl2, a0, a1, hany2, lsOf_sls, hkp, and_self, if_true]
  have hle : (beL Γ2 g es c).length ≤ (splL c).length := List.length_filter_le _ _
  have hlen : (sls (beL Γ2 g es c) ++ List.replicate ((splL c).length - (beL Γ2 g es c).length) PV.nilsl).length = (splL c).length := by simp [sls_len]; omega
  have hbe : ((splL c).length == (splL c).length) = true := beq_self_eq_true _
  refine is.go hm hΓ k_nBest o_nBest (by simp [a_nBest]) ?_
  simp only [a_nBest, h_nOf, c_nOf, h_splits, c_splits, hE, l1, l3, h8, h_DelS, hdel, hlen, hbe, sls_len, isI_ints, ofI_ints, ints_len, List.zipIdx_cons, List.zipIdx_nil, ↓SP, SQ, Gam.add, stepM, callC, argC, lendO, nmBy, nmC, likeL, likeB, plainOb, offs, exL, X, F, trP, trO, stepD, stepW, newA, SV.tr, SV.trL, fz, allP, Ob.tr, loadA, cellsA, SV.cells, binA, binI, eqOut, isSl, isPt, natOf, callee, snap, SV.refsL, SV.refs, thaw, fzAll, loA, hiA, elemOf, partsA, buildA, putCells, ↓reduceIte, reduceCtorEq, okCell, Nat.reduceAdd, Nat.reduceEqDiff, Nat.reduceSub, Nat.reduceMul, Nat.reduceLeDiff, Nat.reduceLT, Nat.reduceBEq, PV.scal, PV.scalL, SV.scal, SV.scalL, Ob.scal, PV.isCell, pure', resO]
  refine finA_gen [10] trivial (by simp [retA, rvA, mkE_cons, mk_nil, mkO_cons, mkO_nil, loadA, SV.tr, SV.trL, nmF, rn_nil, rn_cons1, rn_cons2, plainOb, SV.refsL, SV.refs, Ob.refs, X, F, List.range_succ, mkO, setO_mk]; rfl) ?_ ?_ ?_ ?_ ?_ ?_ ?_ <;> simp [retA, rvA, mkE_cons, mk_nil, mkO_cons, mkO_nil, loadA, SV.tr, SV.trL, nmF, rn_nil, rn_cons1, rn_cons2, plainOb, SV.refsL, SV.refs, Ob.refs, X, F, List.range_succ, mkO, setO_mk]
def beP (both : Bool) (c s : List Int) : Bool := decide (1 + mxI (ndI both (yb both c s)) (ndI both (noL c s)) = ndI both c)
def beS (both : Bool) (c : List Int) : List (List Int) := (splL c).filter (beP both c)
theorem yb_okC {both : Bool} {c s : List Int} (hc : okC c = true) (hu : told c = false) (hs : s ∈ splL c) : okC (yb both c s) = true ∧ okC (noL c s) = true := by
  obtain ⟨h1, h2⟩ := sp_okC hc hu hs
  refine ⟨?_, h2⟩
  cases both with
  | true => exact h1
  | false =>
    obtain ⟨⟨l1, l3⟩, h8, hsum⟩ := okC_out hc
    have hk := keyN_bd (p := c.length) rfl h8
    have hdg := dg_key (p := c.length) rfl l3 h8
    have hch := chk_of (okP_O l1 l3) hk.2 (by rw [hdg]; exact hsum) (by rw [hdg]; exact hu)
    rw [hdg] at hch
    have g2 := chk_inn hch hs
    have hsl := spl_len hs
    have hyb : yb false c s = s := rfl
    rw [hyb] at g2 ⊢
    have e1 := pad_sum (c := s) (by omega) (mem_allT.1 g2.1)
    simp only [okC, hsl, e1.1, dec_t e1.2, Bool.and_true]
    rw [dec_t (by omega), dec_t (by omega)]; rfl
theorem beL_nES {Γ2 : Gam} {g : FuncId} {both : Bool} (hr : isRule Γ2 g both) {c : List Int} (hc : okC c = true) (hu : told c = false) : beL Γ2 g (nES both) c = beS both c := by
  simp only [beL, beS]
  apply List.filter_congr
  intro s hs
  obtain ⟨h1, h2⟩ := yb_okC (both := both) hc hu hs
  simp only [beQ, beP, ruleY_is hr, ofE_nES both h1, ofE_nES both h2, ofE_nES both hc]
theorem zsplit {c : List Int} (h8 : in8 c = true) : ∃ s, s ∈ splL c ∧ noL c s = c := by
  refine ⟨List.replicate c.length 0, mem_spl (okSp_all (by simp) fun j hj => ?_), ?_⟩
  · have := in8_get h8 j
    have e : (List.replicate c.length (0 : Int)).getD j 0 = 0 := by
      rw [List.getD_eq_getElem?_getD, List.getElem?_replicate]; split <;> rfl
    rw [e, dec_t (Int.le_refl 0), dec_t this.1]; rfl
  · apply List.ext_getElem
    · rw [noL_len]; simp
    · intro j h1 h2
      have e0 : ∀ i, (List.replicate c.length (0 : Int)).getD i 0 = 0 := fun i => by
        rw [List.getD_eq_getElem?_getD, List.getElem?_replicate]; split <;> rfl
      have hr : ∀ i, i < c.length → (restL c (List.replicate c.length 0)).getD i 0 = c.getD i 0 := fun i hi => by
        rw [restL_get (by simpa using hi), e0]; omega
      have : (noL c (List.replicate c.length 0)).getD j 0 = c.getD j 0 := by
        have hl : (restL c (List.replicate c.length 0)).length = c.length := by rw [restL_len]; simp
        simp only [noL, movL]
        rw [getD_lt (by simp [hl]; exact h2)]
        simp only [List.getElem_map, List.getElem_range, movF]
        by_cases hj : j = 0
        · subst hj; rw [if_pos rfl, hr 0 h2]
        · rw [if_neg hj, hr j h2, e0]; omega
      rw [getD_lt h1, getD_lt h2] at this
      exact this
theorem be_any {Γ2 : Gam} {g : FuncId} {both : Bool} (hr : isRule Γ2 g both) {c : List Int} (hc : okC c = true) (hu : told c = false) : ((splL c).any fun s => !beQ Γ2 g (nES both) c s) = true := by
  obtain ⟨_, h8, _⟩ := okC_out hc
  obtain ⟨s, hs, hn⟩ := zsplit h8
  obtain ⟨h1, h2⟩ := yb_okC (both := both) hc hu hs
  rw [List.any_eq_true]
  refine ⟨s, hs, ?_⟩
  simp only [beQ, ruleY_is hr, ofE_nES both h1, ofE_nES both h2, ofE_nES both hc, hn]
  have : ¬ 1 + mxI (ndI both (yb both c s)) (ndI both c) = ndI both c := by
    simp only [mxI]; split <;> omega
  rw [dec_f this]; rfl
/-- Best splits of the reference. -/
def beR (c s : List Int) : Bool := decide ((if backB c s = true then -1 else snV c s) = ndI true c)
theorem nd_pos {both : Bool} {c : List Int} (hc : okC c = true) (hu : told c = false) : 1 ≤ ndI both c := by
  have hp := okC_pad hc
  obtain ⟨⟨l1, l3⟩, h8, hsum⟩ := okC_out hc
  have hk := keyN_bd (p := c.length) rfl h8
  have hdg := dg_key (p := c.length) rfl l3 h8
  have hz : ntR both (pad3 c) ≠ 0 := by
    intro h0
    cases both with
    | true =>
      have := (zero_told (okP_B l1 l3) hk.2 (by rw [hdg]; exact hsum)).1 (by rw [hdg]; exact h0)
      rw [hdg, hu] at this; cases this
    | false =>
      have := (zero_told (okP_O l1 l3) hk.2 (by rw [hdg]; exact hsum)).1 (by rw [hdg]; exact h0)
      rw [hdg, hu] at this; cases this
  simp only [ndI]; omega
theorem beR_eq {c s : List Int} (hc : okC c = true) (hu : told c = false) (hs : s ∈ splL c) : beR c s = beP true c s := by
  have hyb : yb true c s = yesL c s := rfl
  have hp := nd_pos (both := true) hc hu
  simp only [beR, beP, hyb]
  cases hb : backB c s with
  | false => simp only [Bool.false_eq_true, if_false]; rfl
  | true =>
    simp only [if_true]
    rw [dec_f (by omega)]
    symm
    apply dec_f
    simp only [backB, Bool.or_eq_true, decide_eq_true_eq] at hb
    rcases hb with h | h
    · rw [h]; simp only [mxI]; split <;> omega
    · rw [h]; simp only [mxI]; split <;> omega
theorem beR_filter {c : List Int} (hc : okC c = true) (hu : told c = false) : (splL c).filter (beR c) = beS true c := by
  simp only [beS]
  exact List.filter_congr fun s hs => beR_eq hc hu hs
def a_l4Best (f_l4Needs : FuncId) (f_l4Splits : FuncId) (f_l4SplitNeed : FuncId) (f_l4Key : FuncId) : AFn := ⟨1, 
  .seq (.reg [⟨some 2, none, .d (.mv (.c (.nilsl)))⟩])
  (.seq (.reg [⟨some 7, none, .w (.bslice 1 [] [])⟩,
    ⟨some 8, none, .d (.mv (.t 0))⟩,
    ⟨some 9, none, .d (.len (.t 8))⟩,
    ⟨some 10, none, .d (.call (.f f_l4Needs) [(.t 9)])⟩,
    ⟨some 11, none, .d (.mv (.t 0))⟩,
    ⟨some 12, none, .d (.call (.f f_l4Splits) [(.t 11)])⟩,
    ⟨some 3, none, .d (.mv (.t 7))⟩,
    ⟨some 4, none, .d (.mv (.t 10))⟩,
    ⟨some 5, none, .d (.mv (.t 12))⟩])
  (.seq (.seq (.reg [⟨some 6, none, .d (.mv (.c (.int .i64 0)))⟩])
  (.block 0 (.loop (.seq (.seq (.reg [⟨some 13, none, .d (.mv (.t 6))⟩,
      ⟨some 14, none, .d (.mv (.t 5))⟩,
      ⟨some 15, none, .d (.len (.t 14))⟩,
      ⟨some 16, none, .d (.bin .arith .lss (.t 13) (.t 15))⟩])
    (.cond (.t 16) (.skip) (.exit 0)))
    (.seq (.block 1 (.seq (.reg [⟨some 19, none, .d (.mv (.t 0))⟩,
       ⟨some 20, none, .d (.mv (.t 5))⟩,
       ⟨some 21, none, .d (.mv (.t 6))⟩,
       ⟨some 22, none, .d (.ia 1 (.t 20) (.t 21))⟩,
       ⟨some 23, none, .d (.load false 1 (.t 22))⟩,
       ⟨some 24, none, .d (.mv (.t 4))⟩,
       ⟨some 25, none, .d (.call (.f f_l4SplitNeed) [(.t 19), (.t 23), (.t 24)])⟩,
       ⟨some 26, none, .d (.mv (.t 4))⟩,
       ⟨some 27, none, .d (.mv (.t 0))⟩,
       ⟨some 28, none, .d (.call (.f f_l4Key) [(.t 27)])⟩,
       ⟨some 29, none, .d (.ia 1 (.t 26) (.t 28))⟩,
       ⟨some 30, none, .d (.load false 1 (.t 29))⟩,
       ⟨some 31, none, .d (.bin .arith .eql (.t 25) (.t 30))⟩])
     (.cond (.t 31) (.reg [⟨some 32, none, .d (.mv (.t 3))⟩,
        ⟨some 33, none, .d (.mv (.t 5))⟩,
        ⟨some 34, none, .d (.mv (.t 6))⟩,
        ⟨some 35, none, .d (.ia 1 (.t 33) (.t 34))⟩,
        ⟨some 36, none, .d (.load false 1 (.t 35))⟩,
        ⟨some 37, none, .w (.bslice 1 [.nilsl] [(0, (.t 36))])⟩,
        ⟨some 38, none, .w (.append 1 (.t 32) (.t 37))⟩,
        ⟨some 3, none, .d (.mv (.t 38))⟩]) (.skip))))
    (.reg [⟨some 17, none, .d (.mv (.t 6))⟩,
      ⟨some 18, none, .d (.bin .arith .add (.t 17) (.c (.int .i64 1)))⟩,
      ⟨some 6, none, .d (.mv (.t 18))⟩]))))))
  (.seq (.reg [⟨some 39, none, .d (.mv (.t 3))⟩,
    ⟨some 2, none, .d (.mv (.t 39))⟩])
  (.ret)))), [.tmp 2]⟩
def n_l4Best : Nat → Option Ann := fun _ => none
abbrev k_l4Best : List Nat := [0, 2, 3, 4, 5, 6, 16, 31]
abbrev o_l4Best : List Nat := [7, 37, 38]
def c_l4Best : Con := pure' fun
  | [.p (.sl 1 c_)] => if isI c_ = true ∧ (okC (ofI c_) = true ∧ told (ofI c_) = false) then some (.ar 2000000, [.arr 1 (sls (beS true (ofI c_)))]) else none
  | _ => none
theorem s_l4Best {P : Program} (hm : P.follows .mixedOrders = true) {Γ : Gam} (hΓ : GS P Γ) {n : FuncId} {f_l4Needs : FuncId} {f_l4Splits : FuncId} {f_l4SplitNeed : FuncId} {f_l4Key : FuncId} (is : Is P n (a_l4Best f_l4Needs f_l4Splits f_l4SplitNeed f_l4Key)) (h_l4Needs : Γ f_l4Needs = c_l4Needs) (h_l4Splits : Γ f_l4Splits = c_splits) (h_l4SplitNeed : Γ f_l4SplitNeed = c_l4SplitNeed) (h_l4Key : Γ f_l4Key = c_l4Key)  : Says P n c_l4Best := by
  refine Says.pure fun args r fs h => ?_
  split at h
  case h_2 => cases h
  rename_i c_
  split at h
  case isFalse => cases h
  rename_i hc
  obtain ⟨hc_, hc⟩ := hc
  obtain ⟨c, rfl⟩ := isI_out hc_
  simp only [ofI_ints, ofBo_bools, ofAs_asks, Option.some.injEq, Prod.mk.injEq] at h hc
  obtain ⟨rfl, rfl⟩ := h
  obtain ⟨hok, hu⟩ := hc
  obtain ⟨⟨l1, l3⟩, h8, _⟩ := okC_out hok
  have hokw := okw_of hok hu
  have l1' : (1 : Int) ≤ c.length := by omega
  have l3' : (c.length : Int) ≤ 3 := by omega
  have htl := tabK_len (ntT tabB) c.length 9
  have hbt := tabK_bd (nt := ntT tabB) (p := c.length) (k := 9) (by omega)
  have hsl := spI_len3 h8 l3
  have hsl2 : (splL c).length ≤ 729 := hsl
  obtain ⟨k0, k1⟩ := keyN_bd (p := c.length) rfl h8
  have hkk : (keyL c).toNat = keyN c := rfl
  have hgt := ints_get (l := tabK (ntT tabB) c.length 9) (i := keyN c) (by rw [tabK_len]; exact k1)
  rw [(tab_nd hok).1] at hgt
  rw [← beR_filter hok hu]
  refine is.go hm hΓ k_l4Best o_l4Best (by simp [a_l4Best]) ?_
  simp only [a_l4Best, h_l4Needs, c_l4Needs, h_l4Splits, c_splits, h_l4SplitNeed, c_l4SplitNeed, h_l4Key, c_l4Key, l1', l3', l3, h8, Int.toNat_natCast, List.zipIdx_cons, List.zipIdx_nil, ↓SP, SQ, Gam.add, stepM, callC, argC, lendO, nmBy, nmC, likeL, likeB, plainOb, offs, exL, X, F, trP, trO, stepD, stepW, newA, SV.tr, SV.trL, fz, allP, Ob.tr, loadA, cellsA, SV.cells, binA, binI, eqOut, isSl, isPt, natOf, callee, snap, SV.refsL, SV.refs, thaw, fzAll, loA, hiA, elemOf, partsA, buildA, putCells, ↓reduceIte, reduceCtorEq, okCell, Nat.reduceAdd, Nat.reduceEqDiff, Nat.reduceSub, Nat.reduceMul, Nat.reduceLeDiff, Nat.reduceLT, Nat.reduceBEq, PV.scal, PV.scalL, SV.scal, SV.scalL, Ob.scal, PV.isCell, pure', resO]
  refine loop_at (fun st : J => mkEnv [(0, .p (.sl 1 (ints c))), (2, .p .nilsl), (3, .ar 7), (4, .p (.sl 1 (ints (tabK (ntT tabB) c.length 9)))), (5, .p (.sl 1 (sls (splL c)))), (6, si st.i), (16, st.a), (31, st.b)]) (fun st => mkO [(7, some (.arr 1 (sls (((splL c).take st.i).filter (beR c))))), (37, st.o), (38, none)]) (fun st => st.i ≤ (splL c).length) (fun st => (splL c).length - st.i) ⟨0, .junk, .junk, .junk, .junk, .junk, .junk, .junk, .junk, .junk, .junk, .junk, .junk, none, none, none⟩ (by simp) rfl rfl ?_
  rintro ⟨i, c1, c2, c3, c4, c5, c6, c7, c8, c9, c10, c11, c12, o1, o2, o3⟩ hi R hR hN
  simp only at hi
  by_cases h : i < (splL c).length
  · have h1 : (i : Int) < (splL c).length := by omega
    have hw := wrap_one (i := i) (by omega)
    have hg := sls_get h
    obtain ⟨s, hs⟩ : ∃ s, (splL c).getD i [] = s := ⟨_, rfl⟩
    have hsm : s ∈ splL c := by rw [← hs, getD_lt h]; exact List.getElem_mem h
    rw [hs] at hg
    obtain ⟨ty, tn⟩ := tab_yn hok hu hsm
    have hsv : 1 + mxI (ndI true (yesL c s)) (ndI true (noL c s)) = snV c s := rfl
    have hq0 := take_one (splL c) i [] h
    rw [hs] at hq0
    have hfl : (((splL c).take i).filter (beR c)).length + 1 ≤ roomA := by
      have := List.length_filter_le (beR c) ((splL c).take i)
      rw [List.length_take] at this
      unfold roomA; omega
    cases hb : beR c s with
    | true =>
      have hb2 : ((if backB c s = true then -1 else snV c s) == ndI true c) = true := by
        simp only [beR, decide_eq_true_eq] at hb; rw [hb]; exact beq_self_eq_true _
      have hapx : ((splL c).take i).filter (beR c) ++ [s] = ((splL c).take (i + 1)).filter (beR c) := by
        rw [hq0, List.filter_append]; simp only [List.filter_cons, hb, List.filter_nil, if_true]
      simp only [h1, hw, hg, hokw, hsm, htl, hbt, ty, tn, hsv, hb2, k0, hkk, hgt, hapx, hfl, l3, h8, sls_len, sls_app1, sls_cell, h_l4SplitNeed, c_l4SplitNeed, h_l4Key, c_l4Key, isI_ints, ofI_ints, ints_len, ↓SP, SQ, Gam.add, stepM, callC, argC, lendO, nmBy, nmC, likeL, likeB, plainOb, offs, exL, X, F, trP, trO, stepD, stepW, newA, SV.tr, SV.trL, fz, allP, Ob.tr, loadA, cellsA, SV.cells, binA, binI, eqOut, isSl, isPt, natOf, callee, snap, SV.refsL, SV.refs, thaw, fzAll, loA, hiA, elemOf, partsA, buildA, putCells, ↓reduceIte, reduceCtorEq, okCell, Nat.reduceAdd, Nat.reduceEqDiff, Nat.reduceSub, Nat.reduceMul, Nat.reduceLeDiff, Nat.reduceLT, Nat.reduceBEq, PV.scal, PV.scalL, SV.scal, SV.scalL, Ob.scal, PV.isCell, pure', resO]
      exact hN ⟨i + 1, _, _, .junk, .junk, .junk, .junk, .junk, .junk, .junk, .junk, .junk, .junk, _, none, none⟩ _ _ (by simp only; omega) (by simp only; omega) rfl rfl
    | false =>
      have hb2 : ((if backB c s = true then -1 else snV c s) == ndI true c) = false := by
        simp only [beR, decide_eq_false_iff_not] at hb; exact beq_eq_false_iff_ne.2 hb
      have hapx : ((splL c).take (i + 1)).filter (beR c) = ((splL c).take i).filter (beR c) := by
        rw [hq0, List.filter_append]; simp only [List.filter_cons, hb, List.filter_nil, Bool.false_eq_true, if_false, List.append_nil]
      simp only [h1, hw, hg, hokw, hsm, htl, hbt, ty, tn, hsv, hb2, k0, hkk, hgt, l3, h8, sls_len, h_l4SplitNeed, c_l4SplitNeed, h_l4Key, c_l4Key, isI_ints, ofI_ints, ints_len, ↓SP, SQ, Gam.add, stepM, callC, argC, lendO, nmBy, nmC, likeL, likeB, plainOb, offs, exL, X, F, trP, trO, stepD, stepW, newA, SV.tr, SV.trL, fz, allP, Ob.tr, loadA, cellsA, SV.cells, binA, binI, eqOut, isSl, isPt, natOf, callee, snap, SV.refsL, SV.refs, thaw, fzAll, loA, hiA, elemOf, partsA, buildA, putCells, ↓reduceIte, reduceCtorEq, okCell, Nat.reduceAdd, Nat.reduceEqDiff, Nat.reduceSub, Nat.reduceMul, Nat.reduceLeDiff, Nat.reduceLT, Nat.reduceBEq, PV.scal, PV.scalL, SV.scal, SV.scalL, Ob.scal, PV.isCell, pure', resO]
      exact hN ⟨i + 1, _, _, .junk, .junk, .junk, .junk, .junk, .junk, .junk, .junk, .junk, .junk, _, none, none⟩ _ _ (by simp only; omega) (by simp only; omega) rfl (by rw [hapx])
  · have he : i = (splL c).length := by omega
    have h1 : ¬ (i : Int) < (splL c).length := by omega
    subst he
    have hfe : ((splL c).take (splL c).length).filter (beR c) = (splL c).filter (beR c) := by rw [List.take_length]
    simp only [h1, sls_len, ↓SP, SQ, Gam.add, stepM, callC, argC, lendO, nmBy, nmC, likeL, likeB, plainOb, offs, exL, X, F, trP, trO, stepD, stepW, newA, SV.tr, SV.trL, fz, allP, Ob.tr, loadA, cellsA, SV.cells, binA, binI, eqOut, isSl, isPt, natOf, callee, snap, SV.refsL, SV.refs, thaw, fzAll, loA, hiA, elemOf, partsA, buildA, putCells, ↓reduceIte, reduceCtorEq, okCell, Nat.reduceAdd, Nat.reduceEqDiff, Nat.reduceSub, Nat.reduceMul, Nat.reduceLeDiff, Nat.reduceLT, Nat.reduceBEq, PV.scal, PV.scalL, SV.scal, SV.scalL, Ob.scal, PV.isCell, pure', resO]
    refine hR _ _ _ (by intro h; cases h) ?_
    simp only [hfe, ↓SP, SQ, Gam.add, stepM, callC, argC, lendO, nmBy, nmC, likeL, likeB, plainOb, offs, exL, X, F, trP, trO, stepD, stepW, newA, SV.tr, SV.trL, fz, allP, Ob.tr, loadA, cellsA, SV.cells, binA, binI, eqOut, isSl, isPt, natOf, callee, snap, SV.refsL, SV.refs, thaw, fzAll, loA, hiA, elemOf, partsA, buildA, putCells, ↓reduceIte, reduceCtorEq, okCell, Nat.reduceAdd, Nat.reduceEqDiff, Nat.reduceSub, Nat.reduceMul, Nat.reduceLeDiff, Nat.reduceLT, Nat.reduceBEq, PV.scal, PV.scalL, SV.scal, SV.scalL, Ob.scal, PV.isCell, pure', resO]
    refine finA_gen [7] trivial (by simp [retA, rvA, mkE_cons, mk_nil, mkO_cons, mkO_nil, loadA, SV.tr, SV.trL, nmF, rn_nil, rn_cons1, rn_cons2, plainOb, SV.refsL, SV.refs, Ob.refs, X, F, List.range_succ, mkO, setO_mk]; rfl) ?_ ?_ ?_ ?_ ?_ ?_ ?_ <;> simp [retA, rvA, mkE_cons, mk_nil, mkO_cons, mkO_nil, loadA, SV.tr, SV.trL, nmF, rn_nil, rn_cons1, rn_cons2, plainOb, SV.refsL, SV.refs, Ob.refs, X, F, List.range_succ, mkO, setO_mk]
def cntP (p : Nat → Bool) (m : Int) (x : List Int) (i : Nat) : List Int := (List.range (m + 1).toNat).map fun j : Nat => (((List.range i).filter fun k => p k && decide (x.getD k 0 = (j : Int))).length : Int)
theorem cntP_len (p : Nat → Bool) (m : Int) (x : List Int) (i : Nat) : (cntP p m x i).length = (m + 1).toNat := by simp [cntP]
theorem cntP_0 (p : Nat → Bool) (m : Int) (x : List Int) : List.replicate (m + 1).toNat (0 : Int) = cntP p m x 0 := by
  apply List.ext_getElem
  · simp [cntP]
  · intro i h1 h2; simp [cntP]
theorem cntP_get {p : Nat → Bool} {m : Int} {x : List Int} {i j : Nat} (h : j < (m + 1).toNat) : (cntP p m x i).getD j 0 = (((List.range i).filter fun k => p k && decide (x.getD k 0 = (j : Int))).length : Int) := by
  rw [getD_lt (by rw [cntP_len]; exact h)]; simp [cntP]
theorem cntP_bd {p : Nat → Bool} {m : Int} {x : List Int} {i j : Nat} : 0 ≤ (cntP p m x i).getD j 0 ∧ (cntP p m x i).getD j 0 ≤ i := by
  by_cases h : j < (m + 1).toNat
  · rw [cntP_get h]
    have := List.length_filter_le (fun k => p k && decide (x.getD k 0 = (j : Int))) (List.range i)
    rw [List.length_range] at this
    omega
  · rw [List.getD_eq_getElem?_getD, List.getElem?_eq_none (by rw [cntP_len]; omega)]; simp
theorem cntP_hit {p : Nat → Bool} {m : Int} {x : List Int} {i : Nat} (hp : p i = true) (h0 : 0 ≤ x.getD i 0) (hm : x.getD i 0 ≤ m) : (cntP p m x i).set (x.getD i 0).toNat ((cntP p m x i).getD (x.getD i 0).toNat 0 + 1) = cntP p m x (i + 1) := by
  rw [cntP_get (by omega), cntP, range_set, cntP]
  apply List.map_congr_left
  intro j _
  rw [List.range_succ, List.filter_append]
  by_cases h : j = (x.getD i 0).toNat
  · have e : x.getD i 0 = (j : Int) := by omega
    rw [if_pos h, ← h]
    simp only [List.filter_cons, hp, dec_t e, Bool.and_self, List.filter_nil, if_true, List.length_append, List.length_cons, List.length_nil]
    omega
  · have e : ¬ x.getD i 0 = (j : Int) := by omega
    rw [if_neg h]
    simp only [List.filter_cons, dec_f e, Bool.and_false, List.filter_nil, Bool.false_eq_true, if_false, List.append_nil]
theorem cntP_miss {p : Nat → Bool} {m : Int} {x : List Int} {i : Nat} (h : p i = false ∨ ¬ 0 ≤ x.getD i 0) : cntP p m x (i + 1) = cntP p m x i := by
  rw [cntP, cntP]
  apply List.map_congr_left
  intro j _
  rw [List.range_succ, List.filter_append]
  have : (p i && decide (x.getD i 0 = (j : Int))) = false := by
    rcases h with h | h
    · rw [h]; rfl
    · rw [dec_f (show ¬ x.getD i 0 = (j : Int) by omega), Bool.and_false]
  simp only [List.filter_cons, this, List.filter_nil, Bool.false_eq_true, if_false, List.append_nil]
theorem sum_set {l : List Int} {q : Nat} (h : q < l.length) : (l.set q (l.getD q 0 + 1)).sum = l.sum + 1 := by
  induction l generalizing q with
  | nil => simp at h
  | cons a r ih =>
    cases q with
    | zero => simp; omega
    | succ q =>
      have := ih (q := q) (by simpa using h)
      simp only [List.set_cons_succ, List.getD_cons_succ, List.sum_cons] at this ⊢
      omega
theorem cnt_sum {m : Int} {x : List Int} (hx : ∀ k, k < x.length → x.getD k 0 ≤ m) (hm : 0 ≤ m) : ∀ i, i ≤ x.length → (cntP (fun _ => true) m x i).sum = ((opensI x i).length : Int)
  | 0, _ => by rw [← cntP_0]; simp [opensI]
  | i + 1, h => by
    have ih := cnt_sum hx hm i (by omega)
    by_cases h0 : 0 ≤ x.getD i 0
    · have hxi := hx i (by omega)
      rw [← cntP_hit (p := fun _ => true) rfl h0 hxi, sum_set (by rw [cntP_len]; omega), ih, ← opensI_yes x i h0]
      simp
    · rw [cntP_miss (.inr h0), ih, opensI_no x i h0]
def cntL (m : Int) (x : List Int) : List Int := cntP (fun _ => true) m x x.length
theorem st_out {x : List Int} {m : Int} (h : isSt x m = true) : (1 ≤ x.length ∧ x.length ≤ 12) ∧ (0 ≤ m ∧ m ≤ 2) ∧ ∀ k, k < x.length → -1 ≤ x.getD k 0 ∧ x.getD k 0 ≤ m := by
  simp only [isSt, Bool.and_eq_true, decide_eq_true_eq, List.all_eq_true] at h
  refine ⟨by omega, h.1.2, fun k hk => h.2 _ (by rw [getD_lt hk]; exact List.getElem_mem hk)⟩
theorem mem_le_sum {l : List Int} (h : ∀ v ∈ l, 0 ≤ v) : 0 ≤ l.sum ∧ ∀ v ∈ l, v ≤ l.sum := by
  induction l with
  | nil => simp
  | cons a r ih =>
    obtain ⟨h1, h2⟩ := ih fun v hv => h v (by simp [hv])
    have ha := h a (by simp)
    simp only [List.sum_cons]
    refine ⟨by omega, fun v hv => ?_⟩
    rcases List.mem_cons.1 hv with e | hv
    · omega
    · have := h2 v hv; omega
theorem cnt_okC {x : List Int} {m : Int} (h : isSt x m = true) (ho : (opens x).length ≤ 8) : okC (cntL m x) = true ∧ (cntL m x).sum = ((opens x).length : Int) ∧ (cntL m x).length = (m + 1).toNat := by
  obtain ⟨hl, hm, hx⟩ := st_out h
  have hs : (cntL m x).sum = ((opens x).length : Int) := cnt_sum (fun k hk => (hx k hk).2) hm.1 x.length (Nat.le_refl _)
  have hlen : (cntL m x).length = (m + 1).toNat := cntP_len ..
  refine ⟨?_, hs, hlen⟩
  have hnn : ∀ v ∈ cntL m x, 0 ≤ v := fun v hv => by
    simp only [cntL, cntP, List.mem_map] at hv
    obtain ⟨j, _, rfl⟩ := hv
    omega
  have hb := (mem_le_sum hnn).2
  simp only [okC, hlen, hs, Bool.and_eq_true, decide_eq_true_eq, in8, List.all_eq_true]
  refine ⟨⟨⟨by omega, by omega⟩, fun v hv => ?_⟩, by omega⟩
  have := hb v hv
  have := hnn v hv
  omega
def a_countsS : AFn := ⟨1, 
  .seq (.reg [⟨some 1, none, .w (.box 2 (.t 0))⟩,
    ⟨some 2, none, .d (.mv (.c (.nilsl)))⟩])
  (.seq (.reg [⟨some 6, none, .d (.fa 1 (.t 1))⟩,
    ⟨some 7, none, .d (.load false 1 (.t 6))⟩,
    ⟨some 8, none, .d (.bin .arith .add (.t 7) (.c (.int .i64 1)))⟩,
    ⟨some 9, none, .w (.mkslice 1 (.int .i64 0) (.t 8))⟩,
    ⟨some 3, none, .d (.mv (.t 9))⟩])
  (.seq (.seq (.reg [⟨some 10, none, .d (.fa 0 (.t 1))⟩,
    ⟨some 11, none, .d (.load false 1 (.t 10))⟩,
    ⟨some 12, none, .d (.len (.t 11))⟩,
    ⟨some 13, none, .d (.mv (.c (.int .i64 0)))⟩])
  (.block 0 (.loop (.seq (.reg [⟨some 14, none, .d (.bin .arith .lss (.t 13) (.t 12))⟩])
    (.seq (.cond (.t 14) (.skip) (.exit 0))
    (.seq (.block 1 (.seq (.reg [⟨some 15, none, .d (.ia 1 (.t 11) (.t 13))⟩,
       ⟨some 16, none, .d (.load false 1 (.t 15))⟩,
       ⟨some 5, none, .d (.mv (.t 16))⟩])
     (.seq (.reg [⟨some 17, none, .d (.mv (.t 5))⟩,
       ⟨some 18, none, .d (.bin .arith .geq (.t 17) (.c (.int .i64 0)))⟩])
     (.cond (.t 18) (.reg [⟨some 19, none, .d (.mv (.t 3))⟩,
        ⟨some 20, none, .d (.mv (.t 5))⟩,
        ⟨some 21, none, .d (.ia 1 (.t 19) (.t 20))⟩,
        ⟨some 22, none, .d (.load false 1 (.t 21))⟩,
        ⟨some 23, none, .d (.bin .arith .add (.t 22) (.c (.int .i64 1)))⟩,
        ⟨some 24, none, .d (.ia 1 (.t 19) (.t 20))⟩,
        ⟨none, none, .w (.store 1 (.t 24) (.t 23))⟩]) (.skip)))))
    (.reg [⟨some 25, none, .d (.bin .arith .add (.t 13) (.c (.int .i64 1)))⟩,
      ⟨some 13, none, .d (.mv (.t 25))⟩])))))))
  (.seq (.reg [⟨some 26, none, .d (.mv (.t 3))⟩,
    ⟨some 2, none, .d (.mv (.t 26))⟩])
  (.ret)))), [.tmp 2]⟩
def n_countsS : Nat → Option Ann := fun _ => none
abbrev k_countsS : List Nat := [0, 1, 2, 3, 5, 11, 12, 13, 14, 18]
abbrev o_countsS : List Nat := [1, 9]
def a_l2Counts : AFn := ⟨1, 
  .seq (.reg [⟨some 1, none, .w (.box 2 (.t 0))⟩,
    ⟨some 2, none, .d (.mv (.c (.nilsl)))⟩])
  (.seq (.reg [⟨some 5, none, .d (.fa 1 (.t 1))⟩,
    ⟨some 6, none, .d (.load false 1 (.t 5))⟩,
    ⟨some 7, none, .d (.bin .arith .add (.t 6) (.c (.int .i64 1)))⟩,
    ⟨some 8, none, .w (.mkslice 1 (.int .i64 0) (.t 7))⟩,
    ⟨some 3, none, .d (.mv (.t 8))⟩])
  (.seq (.seq (.reg [⟨some 4, none, .d (.mv (.c (.int .i64 0)))⟩])
  (.block 0 (.loop (.seq (.seq (.reg [⟨some 9, none, .d (.mv (.t 4))⟩,
      ⟨some 10, none, .d (.fa 0 (.t 1))⟩,
      ⟨some 11, none, .d (.load false 1 (.t 10))⟩,
      ⟨some 12, none, .d (.len (.t 11))⟩,
      ⟨some 13, none, .d (.bin .arith .lss (.t 9) (.t 12))⟩])
    (.cond (.t 13) (.skip) (.exit 0)))
    (.seq (.block 1 (.seq (.reg [⟨some 16, none, .d (.fa 0 (.t 1))⟩,
       ⟨some 17, none, .d (.load false 1 (.t 16))⟩,
       ⟨some 18, none, .d (.mv (.t 4))⟩,
       ⟨some 19, none, .d (.ia 1 (.t 17) (.t 18))⟩,
       ⟨some 20, none, .d (.load false 1 (.t 19))⟩,
       ⟨some 21, none, .d (.bin .arith .geq (.t 20) (.c (.int .i64 0)))⟩])
     (.cond (.t 21) (.reg [⟨some 22, none, .d (.mv (.t 3))⟩,
        ⟨some 23, none, .d (.fa 0 (.t 1))⟩,
        ⟨some 24, none, .d (.load false 1 (.t 23))⟩,
        ⟨some 25, none, .d (.mv (.t 4))⟩,
        ⟨some 26, none, .d (.ia 1 (.t 24) (.t 25))⟩,
        ⟨some 27, none, .d (.load false 1 (.t 26))⟩,
        ⟨some 28, none, .d (.ia 1 (.t 22) (.t 27))⟩,
        ⟨some 29, none, .d (.load false 1 (.t 28))⟩,
        ⟨some 30, none, .d (.bin .arith .add (.t 29) (.c (.int .i64 1)))⟩,
        ⟨some 31, none, .d (.ia 1 (.t 22) (.t 27))⟩,
        ⟨none, none, .w (.store 1 (.t 31) (.t 30))⟩]) (.skip))))
    (.reg [⟨some 14, none, .d (.mv (.t 4))⟩,
      ⟨some 15, none, .d (.bin .arith .add (.t 14) (.c (.int .i64 1)))⟩,
      ⟨some 4, none, .d (.mv (.t 15))⟩]))))))
  (.seq (.reg [⟨some 32, none, .d (.mv (.t 3))⟩,
    ⟨some 2, none, .d (.mv (.t 32))⟩])
  (.ret)))), [.tmp 2]⟩
def n_l2Counts : Nat → Option Ann := fun _ => none
abbrev k_l2Counts : List Nat := [0, 1, 2, 3, 4, 13, 21]
abbrev o_l2Counts : List Nat := [1, 8]
def c_countsS : Con := pure' fun
  | [.p (.agg [.sl 1 x_, .int .i64 m])] => if isI x_ = true ∧ (isSt (ofI x_) m = true) then some (.ar 2000000, [.arr 1 (ints (cntL m (ofI x_)))]) else none
  | _ => none
theorem s_countsS {P : Program} (hm : P.follows .mixedOrders = true) {Γ : Gam} (hΓ : GS P Γ) {n : FuncId} (is : Is P n a_countsS)  : Says P n c_countsS := by
  refine Says.pure fun args r fs h => ?_
  split at h
  case h_2 => cases h
  rename_i x_ m
  split at h
  case isFalse => cases h
  rename_i hc
  obtain ⟨hx_, hc⟩ := hc
  obtain ⟨x, rfl⟩ := isI_out hx_
  simp only [ofI_ints, ofBo_bools, ofAs_asks, Option.some.injEq, Prod.mk.injEq] at h hc
  obtain ⟨rfl, rfl⟩ := h
  obtain ⟨⟨hl1, hl2⟩, ⟨hm0, hm2⟩, hx⟩ := st_out hc
  have hwm : IntKind.i64.wrap (m + 1) = m + 1 := wrap64 (by omega) (by omega)
  have hm1 : (0 : Int) ≤ m + 1 := by omega
  have hroom : (m + 1).toNat ≤ roomA := by unfold roomA; omega
  have hz := cntP_0 (fun _ => true) m x
  refine is.go hm hΓ k_countsS o_countsS (by simp [a_countsS]) ?_
  simp only [a_countsS, hwm, hm1, hroom, ints_rep, hz, List.zipIdx_cons, List.zipIdx_nil, ↓SP, SQ, Gam.add, stepM, callC, argC, lendO, nmBy, nmC, likeL, likeB, plainOb, offs, exL, X, F, trP, trO, stepD, stepW, newA, SV.tr, SV.trL, fz, allP, Ob.tr, loadA, cellsA, SV.cells, binA, binI, eqOut, isSl, isPt, natOf, callee, snap, SV.refsL, SV.refs, thaw, fzAll, loA, hiA, elemOf, partsA, buildA, putCells, ↓reduceIte, reduceCtorEq, okCell, Nat.reduceAdd, Nat.reduceEqDiff, Nat.reduceSub, Nat.reduceMul, Nat.reduceLeDiff, Nat.reduceLT, Nat.reduceBEq, PV.scal, PV.scalL, SV.scal, SV.scalL, Ob.scal, PV.isCell, pure', resO]
  refine loop_at (fun s : Nat × SV × SV × SV => mkEnv [(0, .p (.agg [.sl 1 (ints x), .int .i64 m])), (1, .bx 1 0), (2, .p .nilsl), (3, .ar 9), (5, s.2.1), (11, .p (.sl 1 (ints x))), (12, si x.length), (13, si s.1), (14, s.2.2.1), (18, s.2.2.2)]) (fun s => mkO [(1, some (.box [.p (.sl 1 (ints x)), si m])), (9, some (.arr 1 (ints (cntP (fun _ => true) m x s.1))))]) (fun s => s.1 ≤ x.length) (fun s => x.length - s.1) (0, .junk, .junk, .junk) (by simp) rfl rfl ?_
  rintro ⟨i, c1, c2, c3⟩ hi R hR hN
  simp only at hi
  by_cases h : i < x.length
  · have h1 : (i : Int) < x.length := by omega
    have hw := wrap_one (i := i) (by omega)
    have hg := ints_get h
    have hxi := hx i h
    by_cases h0 : 0 ≤ x.getD i 0
    · have h0' : x.getD i 0 ≥ 0 := h0
      have hcl := cntP_len (fun _ => true) m x i
      have hlt : (x.getD i 0).toNat < (m + 1).toNat := by omega
      have hge := ints_get (l := cntP (fun _ => true) m x i) (i := (x.getD i 0).toNat) (by rw [hcl]; exact hlt)
      have hb := cntP_bd (p := fun _ => true) (m := m) (x := x) (i := i) (j := (x.getD i 0).toNat)
      have hw1 : IntKind.i64.wrap ((cntP (fun _ => true) m x i).getD (x.getD i 0).toNat 0 + 1) = (cntP (fun _ => true) m x i).getD (x.getD i 0).toNat 0 + 1 := wrap64 (by omega) (by omega)
      have hset := cntP_hit (p := fun _ => true) (i := i) rfl h0 hxi.2
      simp only [h1, hw, hg, h0, h0', hcl, hlt, hge, hw1, hset, ints_len, ints_set, ↓SP, SQ, Gam.add, stepM, callC, argC, lendO, nmBy, nmC, likeL, likeB, plainOb, offs, exL, X, F, trP, trO, stepD, stepW, newA, SV.tr, SV.trL, fz, allP, Ob.tr, loadA, cellsA, SV.cells, binA, binI, eqOut, isSl, isPt, natOf, callee, snap, SV.refsL, SV.refs, thaw, fzAll, loA, hiA, elemOf, partsA, buildA, putCells, ↓reduceIte, reduceCtorEq, okCell, Nat.reduceAdd, Nat.reduceEqDiff, Nat.reduceSub, Nat.reduceMul, Nat.reduceLeDiff, Nat.reduceLT, Nat.reduceBEq, PV.scal, PV.scalL, SV.scal, SV.scalL, Ob.scal, PV.isCell, pure', resO]
      exact hN (i + 1, _, _, _) _ _ (by simp only; omega) (by simp only; omega) rfl rfl
    · have h0' : ¬ x.getD i 0 ≥ 0 := h0
      have hmi := cntP_miss (p := fun _ => true) (m := m) (i := i) (.inr h0)
      simp only [h1, hw, hg, h0', ↓SP, SQ, Gam.add, stepM, callC, argC, lendO, nmBy, nmC, likeL, likeB, plainOb, offs, exL, X, F, trP, trO, stepD, stepW, newA, SV.tr, SV.trL, fz, allP, Ob.tr, loadA, cellsA, SV.cells, binA, binI, eqOut, isSl, isPt, natOf, callee, snap, SV.refsL, SV.refs, thaw, fzAll, loA, hiA, elemOf, partsA, buildA, putCells, ↓reduceIte, reduceCtorEq, okCell, Nat.reduceAdd, Nat.reduceEqDiff, Nat.reduceSub, Nat.reduceMul, Nat.reduceLeDiff, Nat.reduceLT, Nat.reduceBEq, PV.scal, PV.scalL, SV.scal, SV.scalL, Ob.scal, PV.isCell, pure', resO]
      exact hN (i + 1, _, _, _) _ _ (by simp only; omega) (by simp only; omega) rfl (by rw [hmi])
  · have he : i = x.length := by omega
    have h1 : ¬ (i : Int) < x.length := by omega
    simp only [h1, ↓SP, SQ, Gam.add, stepM, callC, argC, lendO, nmBy, nmC, likeL, likeB, plainOb, offs, exL, X, F, trP, trO, stepD, stepW, newA, SV.tr, SV.trL, fz, allP, Ob.tr, loadA, cellsA, SV.cells, binA, binI, eqOut, isSl, isPt, natOf, callee, snap, SV.refsL, SV.refs, thaw, fzAll, loA, hiA, elemOf, partsA, buildA, putCells, ↓reduceIte, reduceCtorEq, okCell, Nat.reduceAdd, Nat.reduceEqDiff, Nat.reduceSub, Nat.reduceMul, Nat.reduceLeDiff, Nat.reduceLT, Nat.reduceBEq, PV.scal, PV.scalL, SV.scal, SV.scalL, Ob.scal, PV.isCell, pure', resO]
    refine hR _ _ _ (by intro h; cases h) ?_
    simp only [↓SP, SQ, Gam.add, stepM, callC, argC, lendO, nmBy, nmC, likeL, likeB, plainOb, offs, exL, X, F, trP, trO, stepD, stepW, newA, SV.tr, SV.trL, fz, allP, Ob.tr, loadA, cellsA, SV.cells, binA, binI, eqOut, isSl, isPt, natOf, callee, snap, SV.refsL, SV.refs, thaw, fzAll, loA, hiA, elemOf, partsA, buildA, putCells, ↓reduceIte, reduceCtorEq, okCell, Nat.reduceAdd, Nat.reduceEqDiff, Nat.reduceSub, Nat.reduceMul, Nat.reduceLeDiff, Nat.reduceLT, Nat.reduceBEq, PV.scal, PV.scalL, SV.scal, SV.scalL, Ob.scal, PV.isCell, pure', resO]
    subst he
    refine finA_gen [9] trivial (by simp [retA, rvA, mkE_cons, mk_nil, mkO_cons, mkO_nil, loadA, SV.tr, SV.trL, nmF, rn_nil, rn_cons1, rn_cons2, plainOb, SV.refsL, SV.refs, Ob.refs, X, F, List.range_succ, mkO, setO_mk]; rfl) ?_ ?_ ?_ ?_ ?_ ?_ ?_ <;> simp [cntL, retA, rvA, mkE_cons, mk_nil, mkO_cons, mkO_nil, loadA, SV.tr, SV.trL, nmF, rn_nil, rn_cons1, rn_cons2, plainOb, SV.refsL, SV.refs, Ob.refs, X, F, List.range_succ, mkO, setO_mk]
theorem s_l2Counts {P : Program} (hm : P.follows .mixedOrders = true) {Γ : Gam} (hΓ : GS P Γ) {n : FuncId} (is : Is P n a_l2Counts)  : Says P n c_countsS := by
  refine Says.pure fun args r fs h => ?_
  split at h
  case h_2 => cases h
  rename_i x_ m
  split at h
  case isFalse => cases h
  rename_i hc
  obtain ⟨hx_, hc⟩ := hc
  obtain ⟨x, rfl⟩ := isI_out hx_
  simp only [ofI_ints, ofBo_bools, ofAs_asks, Option.some.injEq, Prod.mk.injEq] at h hc
  obtain ⟨rfl, rfl⟩ := h
  obtain ⟨⟨hl1, hl2⟩, ⟨hm0, hm2⟩, hx⟩ := st_out hc
  have hwm : IntKind.i64.wrap (m + 1) = m + 1 := wrap64 (by omega) (by omega)
  have hm1 : (0 : Int) ≤ m + 1 := by omega
  have hroom : (m + 1).toNat ≤ roomA := by unfold roomA; omega
  have hz := cntP_0 (fun _ => true) m x
  refine is.go hm hΓ k_l2Counts o_l2Counts (by simp [a_l2Counts]) ?_
  simp only [a_l2Counts, hwm, hm1, hroom, ints_rep, hz, List.zipIdx_cons, List.zipIdx_nil, ↓SP, SQ, Gam.add, stepM, callC, argC, lendO, nmBy, nmC, likeL, likeB, plainOb, offs, exL, X, F, trP, trO, stepD, stepW, newA, SV.tr, SV.trL, fz, allP, Ob.tr, loadA, cellsA, SV.cells, binA, binI, eqOut, isSl, isPt, natOf, callee, snap, SV.refsL, SV.refs, thaw, fzAll, loA, hiA, elemOf, partsA, buildA, putCells, ↓reduceIte, reduceCtorEq, okCell, Nat.reduceAdd, Nat.reduceEqDiff, Nat.reduceSub, Nat.reduceMul, Nat.reduceLeDiff, Nat.reduceLT, Nat.reduceBEq, PV.scal, PV.scalL, SV.scal, SV.scalL, Ob.scal, PV.isCell, pure', resO]
  refine loop_at (fun s : Nat × SV × SV => mkEnv [(0, .p (.agg [.sl 1 (ints x), .int .i64 m])), (1, .bx 1 0), (2, .p .nilsl), (3, .ar 8), (4, si s.1), (13, s.2.1), (21, s.2.2)]) (fun s => mkO [(1, some (.box [.p (.sl 1 (ints x)), si m])), (8, some (.arr 1 (ints (cntP (fun _ => true) m x s.1))))]) (fun s => s.1 ≤ x.length) (fun s => x.length - s.1) (0, .junk, .junk) (by simp) rfl rfl ?_
  rintro ⟨i, c1, c2⟩ hi R hR hN
  simp only at hi
  by_cases h : i < x.length
  · have h1 : (i : Int) < x.length := by omega
    have hw := wrap_one (i := i) (by omega)
    have hg := ints_get h
    have hxi := hx i h
    by_cases h0 : 0 ≤ x.getD i 0
    · have h0' : x.getD i 0 ≥ 0 := h0
      have hcl := cntP_len (fun _ => true) m x i
      have hlt : (x.getD i 0).toNat < (m + 1).toNat := by omega
      have hge := ints_get (l := cntP (fun _ => true) m x i) (i := (x.getD i 0).toNat) (by rw [hcl]; exact hlt)
      have hb := cntP_bd (p := fun _ => true) (m := m) (x := x) (i := i) (j := (x.getD i 0).toNat)
      have hw1 : IntKind.i64.wrap ((cntP (fun _ => true) m x i).getD (x.getD i 0).toNat 0 + 1) = (cntP (fun _ => true) m x i).getD (x.getD i 0).toNat 0 + 1 := wrap64 (by omega) (by omega)
      have hset := cntP_hit (p := fun _ => true) (i := i) rfl h0 hxi.2
      simp only [h1, hw, hg, h0, h0', hcl, hlt, hge, hw1, hset, ints_len, ints_set, ↓SP, SQ, Gam.add, stepM, callC, argC, lendO, nmBy, nmC, likeL, likeB, plainOb, offs, exL, X, F, trP, trO, stepD, stepW, newA, SV.tr, SV.trL, fz, allP, Ob.tr, loadA, cellsA, SV.cells, binA, binI, eqOut, isSl, isPt, natOf, callee, snap, SV.refsL, SV.refs, thaw, fzAll, loA, hiA, elemOf, partsA, buildA, putCells, ↓reduceIte, reduceCtorEq, okCell, Nat.reduceAdd, Nat.reduceEqDiff, Nat.reduceSub, Nat.reduceMul, Nat.reduceLeDiff, Nat.reduceLT, Nat.reduceBEq, PV.scal, PV.scalL, SV.scal, SV.scalL, Ob.scal, PV.isCell, pure', resO]
      exact hN (i + 1, _, _) _ _ (by simp only; omega) (by simp only; omega) rfl rfl
    · have h0' : ¬ x.getD i 0 ≥ 0 := h0
      have hmi := cntP_miss (p := fun _ => true) (m := m) (i := i) (.inr h0)
      simp only [h1, hw, hg, h0', ints_len, ↓SP, SQ, Gam.add, stepM, callC, argC, lendO, nmBy, nmC, likeL, likeB, plainOb, offs, exL, X, F, trP, trO, stepD, stepW, newA, SV.tr, SV.trL, fz, allP, Ob.tr, loadA, cellsA, SV.cells, binA, binI, eqOut, isSl, isPt, natOf, callee, snap, SV.refsL, SV.refs, thaw, fzAll, loA, hiA, elemOf, partsA, buildA, putCells, ↓reduceIte, reduceCtorEq, okCell, Nat.reduceAdd, Nat.reduceEqDiff, Nat.reduceSub, Nat.reduceMul, Nat.reduceLeDiff, Nat.reduceLT, Nat.reduceBEq, PV.scal, PV.scalL, SV.scal, SV.scalL, Ob.scal, PV.isCell, pure', resO]
      exact hN (i + 1, _, _) _ _ (by simp only; omega) (by simp only; omega) rfl (by rw [hmi])
  · have he : i = x.length := by omega
    have h1 : ¬ (i : Int) < x.length := by omega
    simp only [h1, ints_len, ↓SP, SQ, Gam.add, stepM, callC, argC, lendO, nmBy, nmC, likeL, likeB, plainOb, offs, exL, X, F, trP, trO, stepD, stepW, newA, SV.tr, SV.trL, fz, allP, Ob.tr, loadA, cellsA, SV.cells, binA, binI, eqOut, isSl, isPt, natOf, callee, snap, SV.refsL, SV.refs, thaw, fzAll, loA, hiA, elemOf, partsA, buildA, putCells, ↓reduceIte, reduceCtorEq, okCell, Nat.reduceAdd, Nat.reduceEqDiff, Nat.reduceSub, Nat.reduceMul, Nat.reduceLeDiff, Nat.reduceLT, Nat.reduceBEq, PV.scal, PV.scalL, SV.scal, SV.scalL, Ob.scal, PV.isCell, pure', resO]
    refine hR _ _ _ (by intro h; cases h) ?_
    simp only [↓SP, SQ, Gam.add, stepM, callC, argC, lendO, nmBy, nmC, likeL, likeB, plainOb, offs, exL, X, F, trP, trO, stepD, stepW, newA, SV.tr, SV.trL, fz, allP, Ob.tr, loadA, cellsA, SV.cells, binA, binI, eqOut, isSl, isPt, natOf, callee, snap, SV.refsL, SV.refs, thaw, fzAll, loA, hiA, elemOf, partsA, buildA, putCells, ↓reduceIte, reduceCtorEq, okCell, Nat.reduceAdd, Nat.reduceEqDiff, Nat.reduceSub, Nat.reduceMul, Nat.reduceLeDiff, Nat.reduceLT, Nat.reduceBEq, PV.scal, PV.scalL, SV.scal, SV.scalL, Ob.scal, PV.isCell, pure', resO]
    subst he
    refine finA_gen [8] trivial (by simp [retA, rvA, mkE_cons, mk_nil, mkO_cons, mkO_nil, loadA, SV.tr, SV.trL, nmF, rn_nil, rn_cons1, rn_cons2, plainOb, SV.refsL, SV.refs, Ob.refs, X, F, List.range_succ, mkO, setO_mk]; rfl) ?_ ?_ ?_ ?_ ?_ ?_ ?_ <;> simp [cntL, retA, rvA, mkE_cons, mk_nil, mkO_cons, mkO_nil, loadA, SV.tr, SV.trL, nmF, rn_nil, rn_cons1, rn_cons2, plainOb, SV.refsL, SV.refs, Ob.refs, X, F, List.range_succ, mkO, setO_mk]
def v1 : List SV := [.p (.sl 1 (ints [0])), .p (.sl 1 (ints [0]))]
def hdB (c : List Int) : List Int := (beS true c).getD 0 []
theorem chkB_of {c : List Int} (hc : okC c = true) (hu : told c = false) : chkN true (ntT tabB) c = true := by
  obtain ⟨⟨l1, l3⟩, h8, hsum⟩ := okC_out hc
  have hk := keyN_bd (p := c.length) rfl h8
  have hdg := dg_key (p := c.length) rfl l3 h8
  have hch := chk_of (okP_B l1 l3) hk.2 (by rw [hdg]; exact hsum) (by rw [hdg]; exact hu)
  rwa [hdg] at hch
structure HB (c : List Int) : Prop where
  mem : hdB c ∈ splL c
  len : 0 < (beS true c).length
  best : snV c (hdB c) = ndI true c
  back : backB c (hdB c) = false
theorem HB.of {c : List Int} (hc : okC c = true) (hu : told c = false) : HB c := by
  have hch := chkB_of hc hu
  simp only [chkN, Bool.and_eq_true, List.all_eq_true, List.any_eq_true, decide_eq_true_eq] at hch
  obtain ⟨hall, s0, hs0, hm0⟩ := hch
  have hyb : ∀ s, yb true c s = yesL c s := fun _ => rfl
  have hle0 := (hall s0 hs0).2
  rw [hyb] at hm0 hle0
  have hp0 : beP true c s0 = true := by
    simp only [beP, hyb, decide_eq_true_eq]
    have a1 : ndI true c = (ntT tabB (pad3 c) : Int) := rfl
    have a2 : ndI true (yesL c s0) = (ntT tabB (pad3 (yesL c s0)) : Int) := rfl
    have a3 : ndI true (noL c s0) = (ntT tabB (pad3 (noL c s0)) : Int) := rfl
    rw [a1, a2, a3]
    simp only [mxI]
    split <;> omega
  have hmem0 : s0 ∈ beS true c := List.mem_filter.2 ⟨hs0, hp0⟩
  have hlen : 0 < (beS true c).length := List.length_pos_of_mem hmem0
  have hhd : hdB c ∈ beS true c := by rw [hdB, getD_lt hlen]; exact List.getElem_mem hlen
  obtain ⟨hm, hp⟩ := List.mem_filter.1 hhd
  have hbest : snV c (hdB c) = ndI true c := by have h := hp; simp only [beP, hyb, decide_eq_true_eq] at h; exact h
  refine ⟨hm, hlen, hbest, ?_⟩
  simp only [snV] at hbest
  simp only [backB, Bool.or_eq_false_iff, decide_eq_false_iff_not]
  constructor
  · intro h; rw [h] at hbest; simp only [mxI] at hbest; split at hbest <;> omega
  · intro h; rw [h] at hbest; simp only [mxI] at hbest; split at hbest <;> omega
end Go.Proofs.Ytihpfhdkjlphhaa.Pam
