/- A part of the proof that stands in this folder: a small machine whose steps are shown to be the steps of the model, or walks of functions by it. No condition of its own. -/
import Derived.Test.YtihpfhdkjlphhaaGeMP
set_option linter.unusedVariables false
set_option linter.unusedSimpArgs false
namespace Go.Proofs.Ytihpfhdkjlphhaa.Pam
open Go
def lsOf (xs : List PV) : List (List Int) := xs.map fun
  | .sl _ ys => ofI ys
  | _ => []
theorem lsOf_sls (L : List (List Int)) : lsOf (sls L) = L := by
  simp only [lsOf, sls, List.map_map]
  have : ((fun x : PV => match x with | .sl _ ys => ofI ys | _ => []) ∘ fun l : List Int => PV.sl 1 (ints l)) = id := by funext l; simp [ofI_ints]
  rw [this, List.map_id]
theorem sls_set (L : List (List Int)) (i : Nat) (l : List Int) : (sls L).set i (.sl 1 (ints l)) = sls (L.set i l) := by simp [sls, List.map_set]
theorem putPV_sls (L : List (List Int)) (i n : Nat) (h : i + n ≤ L.length) : putPV (sls L) i (List.replicate n .nilsl) = sls (L.take i) ++ List.replicate n .nilsl ++ sls (L.drop (i + n)) := by
  rw [putPV_eq _ _ _ (by simp [sls_len]; omega)]
  simp [sls, List.map_take, List.map_drop]
def a_DelS (f_IndexFuncS : FuncId) : AFn := ⟨2, 
  .seq (.reg [⟨some 4, none, .d (.mv (.c (.nilsl)))⟩])
  (.seq (.reg [⟨some 8, none, .d (.mv (.t 0))⟩,
    ⟨some 9, none, .d (.mv (.t 1))⟩,
    ⟨some 10, none, .d (.call (.f f_IndexFuncS) [(.t 8), (.t 9)])⟩,
    ⟨some 5, none, .d (.mv (.t 10))⟩])
  (.seq (.seq (.reg [⟨some 11, none, .d (.mv (.t 5))⟩,
    ⟨some 12, none, .d (.bin .arith .eql (.t 11) (.c (.int .i64 (-1))))⟩])
  (.cond (.t 12) (.seq (.reg [⟨some 13, none, .d (.mv (.t 0))⟩,
     ⟨some 4, none, .d (.mv (.t 13))⟩])
   (.ret)) (.skip)))
  (.seq (.seq (.reg [⟨some 14, none, .d (.mv (.t 5))⟩,
    ⟨some 15, none, .d (.bin .arith .add (.t 14) (.c (.int .i64 1)))⟩,
    ⟨some 6, none, .d (.mv (.t 15))⟩])
  (.block 0 (.loop (.seq (.seq (.reg [⟨some 16, none, .d (.mv (.t 6))⟩,
      ⟨some 17, none, .d (.mv (.t 0))⟩,
      ⟨some 18, none, .d (.len (.t 17))⟩,
      ⟨some 19, none, .d (.bin .arith .lss (.t 16) (.t 18))⟩])
    (.cond (.t 19) (.skip) (.exit 0)))
    (.seq (.block 1 (.seq (.reg [⟨some 22, none, .d (.mv (.t 0))⟩,
       ⟨some 23, none, .d (.mv (.t 6))⟩,
       ⟨some 24, none, .d (.ia 1 (.t 22) (.t 23))⟩,
       ⟨some 25, none, .d (.load false 1 (.t 24))⟩,
       ⟨some 7, none, .d (.mv (.t 25))⟩])
     (.seq (.reg [⟨some 26, none, .d (.mv (.t 1))⟩,
       ⟨some 27, none, .d (.mv (.t 7))⟩,
       ⟨some 28, none, .d (.call (.t 26) [(.t 27)])⟩,
       ⟨some 29, none, .d (.not (.t 28))⟩])
     (.cond (.t 29) (.seq (.reg [⟨some 30, none, .d (.mv (.t 0))⟩,
        ⟨some 31, none, .d (.mv (.t 5))⟩,
        ⟨some 32, none, .d (.mv (.t 7))⟩,
        ⟨some 33, none, .d (.ia 1 (.t 30) (.t 31))⟩,
        ⟨none, none, .w (.store 1 (.t 33) (.t 32))⟩])
      (.reg [⟨some 34, none, .d (.mv (.t 5))⟩,
        ⟨some 35, none, .d (.bin .arith .add (.t 34) (.c (.int .i64 1)))⟩,
        ⟨some 5, none, .d (.mv (.t 35))⟩])) (.skip)))))
    (.reg [⟨some 20, none, .d (.mv (.t 6))⟩,
      ⟨some 21, none, .d (.bin .arith .add (.t 20) (.c (.int .i64 1)))⟩,
      ⟨some 6, none, .d (.mv (.t 21))⟩]))))))
  (.seq (.reg [⟨some 36, none, .d (.mv (.t 0))⟩,
    ⟨some 37, none, .d (.mv (.t 5))⟩,
    ⟨some 38, none, .d (.slc 1 (.t 36) (some (.t 37)) none)⟩,
    ⟨none, none, .w (.clear 1 (.nilsl) (.t 38))⟩])
  (.seq (.reg [⟨some 39, none, .d (.mv (.t 0))⟩,
    ⟨some 40, none, .d (.mv (.t 5))⟩,
    ⟨some 41, none, .d (.slc 1 (.t 39) none (some (.t 40)))⟩,
    ⟨some 4, none, .d (.mv (.t 41))⟩])
  (.ret)))))), [.tmp 4]⟩
def n_DelS : Nat → Option Ann := fun _ => none
abbrev k_DelS : List Nat := [0, 1, 4, 5, 6, 7, 12, 19, 29]
abbrev o_DelS : List Nat := []
def c_DelS (Γ0 Γ1 : Gam) : Con
  | [.ar 1000000, .p (.fn g a b)], [.arr 1 xs] => if isS xs = true ∧ xs.length ≤ 1100000 then (match askF Γ0 g a b xs, askF Γ1 g a b xs with
      | some bs, some bs' => if bs = bs' ∧ bs.any id = true then some (.sub 1000000 0 (kpI [] (lsOf xs) bs xs.length).length, [.arr 1 (sls (kpI [] (lsOf xs) bs xs.length) ++ List.replicate (xs.length - (kpI [] (lsOf xs) bs xs.length).length) .nilsl)], []) else none
      | _, _ => none) else none
  | _, _ => none
theorem s_DelS {P : Program} (hm : P.follows .mixedOrders = true) {Γ : Gam} (hΓ : GS P Γ) {n : FuncId} {f_IndexFuncS : FuncId} (is : Is P n (a_DelS f_IndexFuncS)) {Γ0 : Gam} (h_IndexFuncS : Γ f_IndexFuncS = c_IndexFuncS Γ0) : Says P n (c_DelS Γ0 Γ) := by
  intro args ext r ext' fs h
  unfold c_DelS at h
  split at h
  case h_2 => cases h
  rename_i g a b xs
  split at h
  case isFalse => cases h
  rename_i hc
  obtain ⟨hx, hn⟩ := hc
  obtain ⟨L, rfl⟩ := isS_out hx
  rw [sls_len] at hn
  split at h
  case h_2 => cases h
  rename_i bs bs' hbs hbs'
  split at h
  case isFalse => cases h
  rename_i hc2
  obtain ⟨rfl, hany⟩ := hc2
  simp only [lsOf_sls, Option.some.injEq, Prod.mk.injEq, sls_len] at h
  obtain ⟨rfl, rfl, rfl⟩ := h
  have hbl := askF_len hbs
  rw [sls_len] at hbl
  obtain ⟨i0, hi0, hf, hpre, hat⟩ := firstT_out hany
  rw [hbl] at hi0
  have hm1 : ((i0 : Int) == -1) = false := beq_eq_false_iff_ne.2 (by omega)
  have hw0 := wrap_one (i := i0) (by omega)
  have hk0 : kpI [] L bs (i0 + 1) = L.take i0 := by rw [kpI_no hat, kpI_all (by omega) hpre]
  have hk0l : (kpI [] L bs (i0 + 1)).length = i0 := by rw [hk0]; simp; omega
  have hstart : kpI [] L bs (i0 + 1) ++ L.drop (kpI [] L bs (i0 + 1)).length = L := by rw [hk0l, hk0, List.take_append_drop]
  refine is.goX hm hΓ k_DelS (1000000 :: o_DelS) (by simp [a_DelS]) (by simp) ?_
  simp only [a_DelS, h_IndexFuncS, c_IndexFuncS, hbs, hf, hm1, hw0, hx, hn, sls_len, List.zipIdx_cons, List.zipIdx_nil, ↓SP, SQ, Gam.add, stepM, callC, argC, lendO, nmBy, nmC, likeL, likeB, plainOb, offs, exL, X, F, trP, trO, stepD, stepW, newA, SV.tr, SV.trL, fz, allP, Ob.tr, loadA, cellsA, SV.cells, binA, binI, eqOut, isSl, isPt, natOf, callee, snap, SV.refsL, SV.refs, thaw, fzAll, loA, hiA, elemOf, partsA, buildA, putCells, ↓reduceIte, reduceCtorEq, okCell, Nat.reduceAdd, Nat.reduceEqDiff, Nat.reduceSub, Nat.reduceMul, Nat.reduceLeDiff, Nat.reduceLT, Nat.reduceBEq, PV.scal, PV.scalL, SV.scal, SV.scalL, Ob.scal, PV.isCell, pure', resO]
  refine loop_at (fun st : J => mkEnv [(0, .ar 1000000), (1, .p (.fn g a b)), (4, .p .nilsl), (5, si (kpI [] L bs st.i).length), (6, si st.i), (7, st.a), (12, sb false), (19, st.b), (29, st.c)]) (fun st => mkO [(1000000, some (.arr 1 (sls (kpI [] L bs st.i ++ L.drop (kpI [] L bs st.i).length))))]) (fun st => st.i ≤ L.length) (fun st => L.length - st.i) ⟨i0 + 1, .junk, .junk, .junk, .junk, .junk, .junk, .junk, .junk, .junk, .junk, .junk, .junk, none, none, none⟩ (by simp only; omega) (by simp only [hk0l]; try rfl) (by simp only [hstart]; try rfl) ?_
  rintro ⟨j, c1, c2, c3, c4, c5, c6, c7, c8, c9, c10, c11, c12, o1, o2, o3⟩ hj R hR hN
  simp only at hj
  have hmm := kpI_len [] L bs j
  have hkl := kd_len (d := []) (bs := bs) hj
  by_cases h : j < L.length
  · have h1 : (j : Int) < L.length := by omega
    have hw := wrap_one (i := j) (by omega)
    have hkg := kd_get (d := []) (bs := bs) h
    have hgL := sls_get h
    have hg := sls_get (L := kpI [] L bs j ++ L.drop (kpI [] L bs j).length) (i := j) (by rw [hkl]; exact h)
    rw [hkg] at hg
    obtain ⟨l, hl⟩ : ∃ l, L.getD j [] = l := ⟨_, rfl⟩
    rw [hl] at hgL hg
    have q3 : (kpI [] L bs j).length < L.length := by omega
    have hq := askF_get hbs' hgL
    have hwm := wrap_one (i := (kpI [] L bs j).length) (by omega)
    cases hb : bs.getD j false with
    | false =>
      rw [hb] at hq
      have hset : (kpI [] L bs j ++ L.drop (kpI [] L bs j).length).set (kpI [] L bs j).length l = kpI [] L bs (j + 1) ++ L.drop (kpI [] L bs (j + 1)).length := by
        rw [← hl]; exact kd_set h hb
      have hlen1 : (kpI [] L bs (j + 1)).length = (kpI [] L bs j).length + 1 := by rw [kpI_yes hb]; simp
      obtain ⟨e1, he1⟩ : ∃ e, (sls (kpI [] L bs j ++ L.drop (kpI [] L bs j).length))[(kpI [] L bs j).length]? = some e := ⟨_, List.getElem?_eq_getElem (by rw [sls_len, hkl]; exact q3)⟩
      simp only [h, h1, hw, hg, hkl, q3, he1, sls_set, hset, hwm, ← hlen1, call_ps, refs_ps, hq, sls_len, Nat.zero_add, ↓SP, SQ, Gam.add, stepM, callC, argC, lendO, nmBy, nmC, likeL, likeB, plainOb, offs, exL, X, F, trP, trO, stepD, stepW, newA, SV.tr, SV.trL, fz, allP, Ob.tr, loadA, cellsA, SV.cells, binA, binI, eqOut, isSl, isPt, natOf, callee, snap, SV.refsL, SV.refs, thaw, fzAll, loA, hiA, elemOf, partsA, buildA, putCells, ↓reduceIte, reduceCtorEq, okCell, Nat.reduceAdd, Nat.reduceEqDiff, Nat.reduceSub, Nat.reduceMul, Nat.reduceLeDiff, Nat.reduceLT, Nat.reduceBEq, PV.scal, PV.scalL, SV.scal, SV.scalL, Ob.scal, PV.isCell, pure', resO]
      exact hN ⟨j + 1, _, _, _, .junk, .junk, .junk, .junk, .junk, .junk, .junk, .junk, .junk, none, none, none⟩ _ _ (by simp only; omega) (by simp only; omega) rfl rfl
    | true =>
      rw [hb] at hq
      have hsame := kpI_no (d := []) (L := L) hb
      simp only [h, h1, hw, hg, hkl, call_ps, refs_ps, hq, sls_len, Nat.zero_add, ↓SP, SQ, Gam.add, stepM, callC, argC, lendO, nmBy, nmC, likeL, likeB, plainOb, offs, exL, X, F, trP, trO, stepD, stepW, newA, SV.tr, SV.trL, fz, allP, Ob.tr, loadA, cellsA, SV.cells, binA, binI, eqOut, isSl, isPt, natOf, callee, snap, SV.refsL, SV.refs, thaw, fzAll, loA, hiA, elemOf, partsA, buildA, putCells, ↓reduceIte, reduceCtorEq, okCell, Nat.reduceAdd, Nat.reduceEqDiff, Nat.reduceSub, Nat.reduceMul, Nat.reduceLeDiff, Nat.reduceLT, Nat.reduceBEq, PV.scal, PV.scalL, SV.scal, SV.scalL, Ob.scal, PV.isCell, pure', resO]
      exact hN ⟨j + 1, _, _, _, .junk, .junk, .junk, .junk, .junk, .junk, .junk, .junk, .junk, none, none, none⟩ _ _ (by simp only; omega) (by simp only; omega) (by rw [hsame]) (by rw [hsame])
  · have he : j = L.length := by omega
    have h1 : ¬ (j : Int) < L.length := by omega
    subst he
    have hcl : putPV (sls (kpI [] L bs L.length ++ L.drop (kpI [] L bs L.length).length)) (kpI [] L bs L.length).length (List.replicate (L.length - (kpI [] L bs L.length).length) .nilsl) = sls (kpI [] L bs L.length) ++ List.replicate (L.length - (kpI [] L bs L.length).length) .nilsl := by
      rw [putPV_sls _ _ _ (by rw [hkl]; omega)]
      have e1 : (kpI [] L bs L.length).length + (L.length - (kpI [] L bs L.length).length) = L.length := by omega
      rw [e1, List.take_left, List.drop_of_length_le (by rw [hkl]; exact Nat.le_refl _)]
      simp [sls]
    have hdl : (sls (kpI [] L bs L.length) ++ List.replicate (L.length - (kpI [] L bs L.length).length) PV.nilsl).length = L.length := by simp [sls_len]; omega
    simp only [h1, hkl, sls_len, ↓SP, SQ, Gam.add, stepM, callC, argC, lendO, nmBy, nmC, likeL, likeB, plainOb, offs, exL, X, F, trP, trO, stepD, stepW, newA, SV.tr, SV.trL, fz, allP, Ob.tr, loadA, cellsA, SV.cells, binA, binI, eqOut, isSl, isPt, natOf, callee, snap, SV.refsL, SV.refs, thaw, fzAll, loA, hiA, elemOf, partsA, buildA, putCells, ↓reduceIte, reduceCtorEq, okCell, Nat.reduceAdd, Nat.reduceEqDiff, Nat.reduceSub, Nat.reduceMul, Nat.reduceLeDiff, Nat.reduceLT, Nat.reduceBEq, PV.scal, PV.scalL, SV.scal, SV.scalL, Ob.scal, PV.isCell, pure', resO]
    refine hR _ _ _ (by intro h; cases h) ?_
    simp only [hkl, hmm, hcl, hdl, sls_len, Nat.zero_add, Nat.sub_zero, ↓SP, SQ, Gam.add, stepM, callC, argC, lendO, nmBy, nmC, likeL, likeB, plainOb, offs, exL, X, F, trP, trO, stepD, stepW, newA, SV.tr, SV.trL, fz, allP, Ob.tr, loadA, cellsA, SV.cells, binA, binI, eqOut, isSl, isPt, natOf, callee, snap, SV.refsL, SV.refs, thaw, fzAll, loA, hiA, elemOf, partsA, buildA, putCells, ↓reduceIte, reduceCtorEq, okCell, Nat.reduceAdd, Nat.reduceEqDiff, Nat.reduceSub, Nat.reduceMul, Nat.reduceLeDiff, Nat.reduceLT, Nat.reduceBEq, PV.scal, PV.scalL, SV.scal, SV.scalL, Ob.scal, PV.isCell, pure', resO]
    refine finA_gen [] trivial (by simp [retA, rvA, List.mapM_cons, List.mapM_nil, Option.pure_def, Option.bind_eq_bind, Option.bind_some, Option.map_some, mkE_cons, mk_nil, mkO_cons, mkO_nil, loadA, ↓reduceIte, List.take_succ_cons, List.take_zero, List.drop_zero, List.drop_succ_cons, List.length_cons, List.length_nil, Nat.reduceAdd, Nat.reduceEqDiff, Nat.reduceLeDiff, Nat.zero_add, Nat.le_refl, reduceCtorEq, SV.tr, SV.trL, nmF, rn_nil, rn_cons1, rn_cons2, List.map_cons, List.map_nil, List.all_cons, List.all_nil, plainOb, SV.refsL, SV.refs, Ob.refs, X, F, List.range_succ, List.range_zero, List.nil_append, List.cons_append, List.isEmpty_nil, decide_true, Nat.reduceLT, Bool.and_self, Bool.and_true, and_self, and_true, List.getElem?_cons_zero, List.getElem?_cons_succ, List.nodup_cons, List.nodup_nil, List.mem_cons, List.not_mem_nil, not_false_eq_true, or_false, List.append_nil, mkO, setO_mk, List.mem_singleton]; rfl) ?_ ?_ ?_ ?_ ?_ ?_ ?_ <;> simp [retA, rvA, List.mapM_cons, List.mapM_nil, Option.pure_def, Option.bind_eq_bind, Option.bind_some, Option.map_some, mkE_cons, mk_nil, mkO_cons, mkO_nil, loadA, ↓reduceIte, List.take_succ_cons, List.take_zero, List.drop_zero, List.drop_succ_cons, List.length_cons, List.length_nil, Nat.reduceAdd, Nat.reduceEqDiff, Nat.reduceLeDiff, Nat.zero_add, Nat.le_refl, reduceCtorEq, SV.tr, SV.trL, nmF, rn_nil, rn_cons1, rn_cons2, List.map_cons, List.map_nil, List.all_cons, List.all_nil, plainOb, SV.refsL, SV.refs, Ob.refs, X, F, List.range_succ, List.range_zero, List.nil_append, List.cons_append, List.isEmpty_nil, decide_true, Nat.reduceLT, Bool.and_self, Bool.and_true, and_self, and_true, List.getElem?_cons_zero, List.getElem?_cons_succ, List.nodup_cons, List.nodup_nil, List.mem_cons, List.not_mem_nil, not_false_eq_true, or_false, List.append_nil, mkO, setO_mk, List.mem_singleton]
def a_best1 (f_nSplit : FuncId) : AFn := ⟨4, 
  .seq (.reg [⟨some 5, none, .d (.mv (.c (.bool false)))⟩])
  (.seq (.dreg [] [([], ⟨some 6, none, .d (.load true 2 (.t 1))⟩),
    ([], ⟨some 7, none, .d (.load false 1 (.t 2))⟩),
    ([], ⟨some 8, none, .d (.mv (.t 0))⟩),
    ([], ⟨some 9, none, .d (.call (.f f_nSplit) [(.t 6), (.t 7), (.t 8)])⟩),
    ([], ⟨some 10, none, .d (.load false 1 (.t 3))⟩)] [⟨some 11, none, .d (.bin .arith .neq (.t 9) (.t 10))⟩,
    ⟨some 5, none, .d (.mv (.t 11))⟩])
  (.ret)), [.tmp 5]⟩
def n_best1 : Nat → Option Ann := fun _ => none
abbrev k_best1 : List Nat := [0, 1, 2, 3, 5]
abbrev o_best1 : List Nat := []
noncomputable def c_best1 (Γ2 : Gam) : Con := pure' fun
  | [.p (.sl 1 s_), .p (.cp [.fn g [] [], .mapv es]), .p (.cp [.sl 1 c_]), .p (.cp [.int .i64 nd])] =>
    (match c_nSplit Γ2 [.p (.agg [.fn g [] [], .mapv es]), .p (.sl 1 c_), .p (.sl 1 s_)] [] with
      | some (.p (.int .i64 v), [], []) => some (.p (.bool (v != nd)), [])
      | _ => none)
  | _ => none
theorem s_best1 {P : Program} (hm : P.follows .mixedOrders = true) {Γ : Gam} (hΓ : GS P Γ) {n : FuncId} {f_nSplit : FuncId} (is : Is P n (a_best1 f_nSplit)) {Γ2 : Gam} (h_nSplit : Γ f_nSplit = c_nSplit Γ2) : Says P n (c_best1 Γ2) := by
  refine Says.pure fun args r fs h => ?_
  split at h
  case h_2 => cases h
  rename_i s_ g es c_ nd
  split at h
  case h_2 => cases h
  rename_i v hv
  simp only [Option.some.injEq, Prod.mk.injEq] at h
  obtain ⟨rfl, rfl⟩ := h
  refine is.go hm hΓ k_best1 o_best1 (by simp [a_best1]) ?_
  simp only [a_best1, h_nSplit, hv, List.zipIdx_cons, List.zipIdx_nil, ↓SP, SQ, Gam.add, stepM, callC, argC, lendO, nmBy, nmC, likeL, likeB, plainOb, offs, exL, X, F, trP, trO, stepD, stepW, newA, SV.tr, SV.trL, fz, allP, Ob.tr, loadA, cellsA, SV.cells, binA, binI, eqOut, isSl, isPt, natOf, callee, snap, SV.refsL, SV.refs, thaw, fzAll, loA, hiA, elemOf, partsA, buildA, putCells, ↓reduceIte, reduceCtorEq, okCell, Nat.reduceAdd, Nat.reduceEqDiff, Nat.reduceSub, Nat.reduceMul, Nat.reduceLeDiff, Nat.reduceLT, Nat.reduceBEq, PV.scal, PV.scalL, SV.scal, SV.scalL, Ob.scal, PV.isCell, pure', resO]
  exact finA_val (by simp [retA, rvA, List.mapM_cons, List.mapM_nil, Option.pure_def, Option.bind_eq_bind, Option.bind_some, Option.map_some, mkE_cons, mk_nil, mkO_cons, mkO_nil, loadA, ↓reduceIte, List.take_succ_cons, List.take_zero, List.drop_zero, List.drop_succ_cons, List.length_cons, List.length_nil, Nat.reduceAdd, Nat.reduceEqDiff, Nat.reduceLeDiff, Nat.zero_add, Nat.le_refl, reduceCtorEq, SV.tr, SV.trL, nmF, rn_nil, rn_cons1, rn_cons2, List.map_cons, List.map_nil, List.all_cons, List.all_nil, plainOb, SV.refsL, SV.refs, Ob.refs, X, F, List.range_succ, List.range_zero, List.nil_append, List.cons_append, List.isEmpty_nil, decide_true, Nat.reduceLT, Bool.and_self, Bool.and_true, and_self, and_true, List.getElem?_cons_zero, List.getElem?_cons_succ, List.nodup_cons, List.nodup_nil, List.mem_cons, List.not_mem_nil, not_false_eq_true, or_false, List.append_nil, mkO, setO_mk, List.mem_singleton]) (by simp [SV.tr, SV.trL])
/-- Whether a split has the need of counts. -/
noncomputable def beQ (Γ2 : Gam) (g : FuncId) (es : List (PV × PV)) (c s : List Int) : Bool := decide (1 + mxI (ofE es (ruleY Γ2 g c s)) (ofE es (noL c s)) = ofE es c)
noncomputable def beL (Γ2 : Gam) (g : FuncId) (es : List (PV × PV)) (c : List Int) : List (List Int) := (splL c).filter (beQ Γ2 g es c)
def a_nBest (f_nOf : FuncId) (f_splits : FuncId) (f_best1 : FuncId) (f_DelS : FuncId) : AFn := ⟨2, 
  .seq (.reg [⟨some 2, none, .w (.box 2 (.t 0))⟩,
    ⟨some 3, none, .w (.box 1 (.t 1))⟩,
    ⟨some 4, none, .d (.mv (.c (.nilsl)))⟩])
  (.seq (.reg [⟨some 6, none, .d (.load true 2 (.t 2))⟩,
    ⟨some 7, none, .d (.load false 1 (.t 3))⟩,
    ⟨some 8, none, .d (.call (.f f_nOf) [(.t 6), (.t 7)])⟩,
    ⟨some 5, none, .w (.alloc [.int .i64 0])⟩,
    ⟨none, none, .w (.store 1 (.t 5) (.t 8))⟩])
  (.seq (.reg [⟨some 9, none, .d (.load false 1 (.t 3))⟩,
    ⟨some 10, none, .w (.callL (.f f_splits) [(.t 9)] [] 1 false)⟩,
    ⟨some 11, none, .d (.mkfn f_best1 [] [(.t 2), (.t 3), (.t 5)])⟩,
    ⟨some 12, none, .w (.callL (.f f_DelS) [(.t 10), (.t 11)] [10] 0 true)⟩,
    ⟨some 4, none, .d (.mv (.t 12))⟩])
  (.ret))), [.tmp 4]⟩
def n_nBest : Nat → Option Ann := fun d => if d = 10 then some ⟨[], 1, false⟩ else if d = 12 then some ⟨[10], 0, true⟩ else none
abbrev k_nBest : List Nat := [0, 1, 2, 3, 4, 5]
abbrev o_nBest : List Nat := [2, 3, 5, 10]
open Classical in
noncomputable def c_nBest (Γ2 : Gam) : Con := pure' fun
  | [.p (.agg [.fn g [] [], .mapv es]), .p (.sl 1 c_)] =>
    if (Γ2 g = c_bothWays ∨ Γ2 g = c_oneWay) ∧ okE es = true ∧ isI c_ = true ∧ okC (ofI c_) = true ∧ ((splL (ofI c_)).any fun s => !beQ Γ2 g es (ofI c_) s) = true then
      some (.sub 2000000 0 (beL Γ2 g es (ofI c_)).length, [.arr 1 (sls (beL Γ2 g es (ofI c_)) ++ List.replicate ((splL (ofI c_)).length - (beL Γ2 g es (ofI c_)).length) .nilsl)])
    else none
  | _ => none
theorem ask_best1 {Γ0 Γ2 : Gam} {f_best1 g : FuncId} {es : List (PV × PV)} {c : List Int} (h : Γ0 f_best1 = c_best1 Γ2) (hg : Γ2 g = c_bothWays ∨ Γ2 g = c_oneWay) (hE : okE es = true) (hc : okC c = true) :
    askF Γ0 f_best1 [] [.cp [.fn g [] [], .mapv es], .cp [.sl 1 (ints c)], .cp [.int .i64 (ofE es c)]] (sls (splL c)) = some ((splL c).map fun s => !beQ Γ2 g es c s) := by
  obtain ⟨⟨l1, l3⟩, h8, _⟩ := okC_out hc
  refine askF_eq fun s hs => ?_
  have hsl := spl_len hs
  have hs8 := spl_in8 h8 hs
  have hb1 : bd 1000 c = true := bd_in8 h8 (by omega)
  have hb2 : bd 1000 s = true := bd_in8 hs8 (by omega)
  have hq : (1 + mxI (ofE es (ruleY Γ2 g c s)) (ofE es (noL c s)) != ofE es c) = !beQ Γ2 g es c s := by
    simp only [beQ, bne]
    congr 1
  rw [h]
  simp only [List.nil_append, List.cons_append, List.map_cons, List.map_nil, c_best1, pure', c_nSplit, hg, hE, isI_ints, ofI_ints, ints_len, l1, l3, hsl, hb1, hb2, and_self, if_true, Option.map_some, hq]
theorem sls_app_take (L : List (List Int)) (r : List PV) : (sls L ++ r).take L.length = sls L := by
  have := List.take_left (l₁ := sls L) (l₂ := r)
  rwa [sls_len] at this
theorem s_nBest {P : Program} (hm : P.follows .mixedOrders = true) {Γ : Gam} (hΓ : GS P Γ) {n : FuncId} {f_nOf : FuncId} {f_splits : FuncId} {f_best1 : FuncId} {f_DelS : FuncId} (is : Is P n (a_nBest f_nOf f_splits f_best1 f_DelS)) (h_nOf : Γ f_nOf = c_nOf) (h_splits : Γ f_splits = c_splits) {Γ0 Γ1 Γ2 : Gam} (h_DelS : Γ f_DelS = c_DelS Γ0 Γ1) (h_best1a : Γ0 f_best1 = c_best1 Γ2) (h_best1b : Γ1 f_best1 = c_best1 Γ2) : Says P n (c_nBest Γ2) := by
  refine Says.pure fun args r fs h => ?_
  split at h
  case h_2 => cases h
  rename_i g es c_
  split at h
  case isFalse => cases h
  rename_i hc
  obtain ⟨hg, hE, hc_, hok, hany⟩ := hc
  obtain ⟨c, rfl⟩ := isI_out hc_
  rw [ofI_ints] at hok hany
  simp only [ofI_ints, Option.some.injEq, Prod.mk.injEq] at h
  obtain ⟨rfl, rfl⟩ := h
  obtain ⟨⟨l1, l3⟩, h8, _⟩ := okC_out hok
  have hsl := spI_len3 h8 l3
  have hsl2 : (splL c).length ≤ 1100000 := Nat.le_trans hsl (by omega)
  have a0 := ask_best1 h_best1a hg hE hok
  have a1 := ask_best1 h_best1b hg hE hok
  have hany2 : (((splL c).map fun s => !beQ Γ2 g es c s).any id) = true := by rw [List.any_map]; exact hany
  have hkp : kpI [] (splL c) ((splL c).map fun s => !beQ Γ2 g es c s) (splL c).length = beL Γ2 g es c := by
    rw [kpI_filter _ _ (Nat.le_refl _), List.take_length, beL]
    congr 1; funext s; simp
  have hdel : c_DelS Γ0 Γ1 [.ar 1000000, .p (.fn f_best1 [] [.cp [.fn g [] [], .mapv es], .cp [.sl 1 (ints c)], .cp [.int .i64 (ofE es c)]])] [.arr 1 (sls (splL c))] = some (.sub 1000000 0 (beL Γ2 g es c).length, [.arr 1 (sls (beL Γ2 g es c) ++ List.replicate ((splL c).length - (beL Γ2 g es c).length) .nilsl)], []) := by
    simp only [c_DelS, isS_sls, sls_len, hsl2, a0, a1, hany2, lsOf_sls, hkp, and_self, if_true]
  have hle : (beL Γ2 g es c).length ≤ (splL c).length := List.length_filter_le _ _
  have hlen : (sls (beL Γ2 g es c) ++ List.replicate ((splL c).length - (beL Γ2 g es c).length) PV.nilsl).length = (splL c).length := by simp [sls_len]; omega
  have hbe : ((splL c).length == (splL c).length) = true := beq_self_eq_true _
  refine is.go hm hΓ k_nBest o_nBest (by simp [a_nBest]) ?_
  simp only [a_nBest, h_nOf, c_nOf, h_splits, c_splits, hE, l1, l3, h8, h_DelS, hdel, hlen, hbe, sls_len, isI_ints, ofI_ints, ints_len, List.zipIdx_cons, List.zipIdx_nil, ↓SP, SQ, Gam.add, stepM, callC, argC, lendO, nmBy, nmC, likeL, likeB, plainOb, offs, exL, X, F, trP, trO, stepD, stepW, newA, SV.tr, SV.trL, fz, allP, Ob.tr, loadA, cellsA, SV.cells, binA, binI, eqOut, isSl, isPt, natOf, callee, snap, SV.refsL, SV.refs, thaw, fzAll, loA, hiA, elemOf, partsA, buildA, putCells, ↓reduceIte, reduceCtorEq, okCell, Nat.reduceAdd, Nat.reduceEqDiff, Nat.reduceSub, Nat.reduceMul, Nat.reduceLeDiff, Nat.reduceLT, Nat.reduceBEq, PV.scal, PV.scalL, SV.scal, SV.scalL, Ob.scal, PV.isCell, pure', resO]
  refine finA_gen [10] trivial (by simp [retA, rvA, List.mapM_cons, List.mapM_nil, Option.pure_def, Option.bind_eq_bind, Option.bind_some, Option.map_some, mkE_cons, mk_nil, mkO_cons, mkO_nil, loadA, ↓reduceIte, List.take_succ_cons, List.take_zero, List.drop_zero, List.drop_succ_cons, List.length_cons, List.length_nil, Nat.reduceAdd, Nat.reduceEqDiff, Nat.reduceLeDiff, Nat.zero_add, Nat.le_refl, reduceCtorEq, SV.tr, SV.trL, nmF, rn_nil, rn_cons1, rn_cons2, List.map_cons, List.map_nil, List.all_cons, List.all_nil, plainOb, SV.refsL, SV.refs, Ob.refs, X, F, List.range_succ, List.range_zero, List.nil_append, List.cons_append, List.isEmpty_nil, decide_true, Nat.reduceLT, Bool.and_self, Bool.and_true, and_self, and_true, List.getElem?_cons_zero, List.getElem?_cons_succ, List.nodup_cons, List.nodup_nil, List.mem_cons, List.not_mem_nil, not_false_eq_true, or_false, List.append_nil, mkO, setO_mk, List.mem_singleton]; rfl) ?_ ?_ ?_ ?_ ?_ ?_ ?_ <;> simp [retA, rvA, List.mapM_cons, List.mapM_nil, Option.pure_def, Option.bind_eq_bind, Option.bind_some, Option.map_some, mkE_cons, mk_nil, mkO_cons, mkO_nil, loadA, ↓reduceIte, List.take_succ_cons, List.take_zero, List.drop_zero, List.drop_succ_cons, List.length_cons, List.length_nil, Nat.reduceAdd, Nat.reduceEqDiff, Nat.reduceLeDiff, Nat.zero_add, Nat.le_refl, reduceCtorEq, SV.tr, SV.trL, nmF, rn_nil, rn_cons1, rn_cons2, List.map_cons, List.map_nil, List.all_cons, List.all_nil, plainOb, SV.refsL, SV.refs, Ob.refs, X, F, List.range_succ, List.range_zero, List.nil_append, List.cons_append, List.isEmpty_nil, decide_true, Nat.reduceLT, Bool.and_self, Bool.and_true, and_self, and_true, List.getElem?_cons_zero, List.getElem?_cons_succ, List.nodup_cons, List.nodup_nil, List.mem_cons, List.not_mem_nil, not_false_eq_true, or_false, List.append_nil, mkO, setO_mk, List.mem_singleton]
def beP (both : Bool) (c s : List Int) : Bool := decide (1 + mxI (ndI both (yb both c s)) (ndI both (noL c s)) = ndI both c)
def beS (both : Bool) (c : List Int) : List (List Int) := (splL c).filter (beP both c)
theorem yb_okC {both : Bool} {c s : List Int} (hc : okC c = true) (hu : told c = false) (hs : s ∈ splL c) : okC (yb both c s) = true ∧ okC (noL c s) = true := by
  obtain ⟨h1, h2⟩ := sp_okC hc hu hs
  refine ⟨?_, h2⟩
  cases both with
  | true => exact h1
  | false =>
    obtain ⟨⟨l1, l3⟩, h8, hsum⟩ := okC_out hc
    have hk := keyN_bd (p := c.length) rfl h8
    have hdg := dg_key (p := c.length) rfl l3 h8
    have hch := chk_of (okP_O l1 l3) hk.2 (by rw [hdg]; exact hsum) (by rw [hdg]; exact hu)
    rw [hdg] at hch
    have g2 := chk_inn hch hs
    have hsl := spl_len hs
    have hyb : yb false c s = s := rfl
    rw [hyb] at g2 ⊢
    have e1 := pad_sum (c := s) (by omega) (mem_allT.1 g2.1)
    simp only [okC, hsl, e1.1, dec_t e1.2, Bool.and_true]
    rw [dec_t (by omega), dec_t (by omega)]; rfl
theorem beL_nES {Γ2 : Gam} {g : FuncId} {both : Bool} (hr : isRule Γ2 g both) {c : List Int} (hc : okC c = true) (hu : told c = false) : beL Γ2 g (nES both) c = beS both c := by
  simp only [beL, beS]
  apply List.filter_congr
  intro s hs
  obtain ⟨h1, h2⟩ := yb_okC (both := both) hc hu hs
  simp only [beQ, beP, ruleY_is hr, ofE_nES both h1, ofE_nES both h2, ofE_nES both hc]
theorem zsplit {c : List Int} (h8 : in8 c = true) : ∃ s, s ∈ splL c ∧ noL c s = c := by
  refine ⟨List.replicate c.length 0, mem_spl (okSp_all (by simp) fun j hj => ?_), ?_⟩
  · have := in8_get h8 j
    have e : (List.replicate c.length (0 : Int)).getD j 0 = 0 := by
      rw [List.getD_eq_getElem?_getD, List.getElem?_replicate]; split <;> rfl
    rw [e, dec_t (Int.le_refl 0), dec_t this.1]; rfl
  · apply List.ext_getElem
    · rw [noL_len]; simp
    · intro j h1 h2
      have e0 : ∀ i, (List.replicate c.length (0 : Int)).getD i 0 = 0 := fun i => by
        rw [List.getD_eq_getElem?_getD, List.getElem?_replicate]; split <;> rfl
      have hr : ∀ i, i < c.length → (restL c (List.replicate c.length 0)).getD i 0 = c.getD i 0 := fun i hi => by
        rw [restL_get (by simpa using hi), e0]; omega
      have : (noL c (List.replicate c.length 0)).getD j 0 = c.getD j 0 := by
        have hl : (restL c (List.replicate c.length 0)).length = c.length := by rw [restL_len]; simp
        simp only [noL, movL]
        rw [getD_lt (by simp [hl]; exact h2)]
        simp only [List.getElem_map, List.getElem_range, movF]
        by_cases hj : j = 0
        · subst hj; rw [if_pos rfl, hr 0 h2]
        · rw [if_neg hj, hr j h2, e0]; omega
      rw [getD_lt h1, getD_lt h2] at this
      exact this
theorem be_any {Γ2 : Gam} {g : FuncId} {both : Bool} (hr : isRule Γ2 g both) {c : List Int} (hc : okC c = true) (hu : told c = false) : ((splL c).any fun s => !beQ Γ2 g (nES both) c s) = true := by
  obtain ⟨_, h8, _⟩ := okC_out hc
  obtain ⟨s, hs, hn⟩ := zsplit h8
  obtain ⟨h1, h2⟩ := yb_okC (both := both) hc hu hs
  rw [List.any_eq_true]
  refine ⟨s, hs, ?_⟩
  simp only [beQ, ruleY_is hr, ofE_nES both h1, ofE_nES both h2, ofE_nES both hc, hn]
  have : ¬ 1 + mxI (ndI both (yb both c s)) (ndI both c) = ndI both c := by
    simp only [mxI]; split <;> omega
  rw [dec_f this]; rfl
def a_l1Least : AFn := ⟨2, 
  .seq (.reg [⟨some 4, none, .d (.mv (.c (.int .i64 0)))⟩])
  (.seq (.seq (.reg [⟨some 5, none, .d (.mv (.t 0))⟩,
    ⟨some 6, none, .d (.mv (.t 1))⟩,
    ⟨some 7, none, .d (.bin .arith .lss (.t 5) (.t 6))⟩])
  (.cond (.t 7) (.seq (.reg [⟨some 8, none, .d (.mv (.t 0))⟩,
     ⟨some 4, none, .d (.mv (.t 8))⟩])
   (.ret)) (.skip)))
  (.seq (.reg [⟨some 9, none, .d (.mv (.t 1))⟩,
    ⟨some 4, none, .d (.mv (.t 9))⟩])
  (.ret))), [.tmp 4]⟩
def n_l1Least : Nat → Option Ann := fun _ => none
abbrev k_l1Least : List Nat := [0, 1, 4, 7]
abbrev o_l1Least : List Nat := []
def c_l1Least : Con := pure' fun
  | [.p (.int .i64 a), .p (.int .i64 b)] => if (True) then some (.p (.int .i64 (if a < b then a else b)), []) else none
  | _ => none
theorem s_l1Least {P : Program} (hm : P.follows .mixedOrders = true) {Γ : Gam} (hΓ : GS P Γ) {n : FuncId} (is : Is P n a_l1Least)  : Says P n c_l1Least := by
  refine Says.pure fun args r fs h => ?_
  split at h
  case h_2 => cases h
  rename_i a b
  split at h
  case isFalse => cases h
  rename_i hc
  simp only [ofI_ints, ofBo_bools, ofAs_asks, Option.some.injEq, Prod.mk.injEq] at h hc
  obtain ⟨rfl, rfl⟩ := h
  by_cases h : a < b
  · refine is.go hm hΓ k_l1Least o_l1Least (by simp [a_l1Least]) ?_
    simp only [a_l1Least, h, List.zipIdx_cons, List.zipIdx_nil, ↓SP, SQ, Gam.add, stepM, callC, argC, lendO, nmBy, nmC, likeL, likeB, plainOb, offs, exL, X, F, trP, trO, stepD, stepW, newA, SV.tr, SV.trL, fz, allP, Ob.tr, loadA, cellsA, SV.cells, binA, binI, eqOut, isSl, isPt, natOf, callee, snap, SV.refsL, SV.refs, thaw, fzAll, loA, hiA, elemOf, partsA, buildA, putCells, ↓reduceIte, reduceCtorEq, okCell, Nat.reduceAdd, Nat.reduceEqDiff, Nat.reduceSub, Nat.reduceMul, Nat.reduceLeDiff, Nat.reduceLT, Nat.reduceBEq, PV.scal, PV.scalL, SV.scal, SV.scalL, Ob.scal, PV.isCell, pure', resO]
    exact finA_val (by simp [retA, rvA, List.mapM_cons, List.mapM_nil, Option.pure_def, Option.bind_eq_bind, Option.bind_some, Option.map_some, mkE_cons, mk_nil, mkO_cons, mkO_nil, loadA, ↓reduceIte, List.take_succ_cons, List.take_zero, List.drop_zero, List.drop_succ_cons, List.length_cons, List.length_nil, Nat.reduceAdd, Nat.reduceEqDiff, Nat.reduceLeDiff, Nat.zero_add, Nat.le_refl, reduceCtorEq, SV.tr, SV.trL, nmF, rn_nil, rn_cons1, rn_cons2, List.map_cons, List.map_nil, List.all_cons, List.all_nil, plainOb, SV.refsL, SV.refs, Ob.refs, X, F, List.range_succ, List.range_zero, List.nil_append, List.cons_append, List.isEmpty_nil, decide_true, Nat.reduceLT, Bool.and_self, Bool.and_true, and_self, and_true, List.getElem?_cons_zero, List.getElem?_cons_succ, List.nodup_cons, List.nodup_nil, List.mem_cons, List.not_mem_nil, not_false_eq_true, or_false, List.append_nil, mkO, setO_mk, List.mem_singleton]) (by simp [SV.tr, SV.trL])
  · refine is.go hm hΓ k_l1Least o_l1Least (by simp [a_l1Least]) ?_
    simp only [a_l1Least, h, List.zipIdx_cons, List.zipIdx_nil, ↓SP, SQ, Gam.add, stepM, callC, argC, lendO, nmBy, nmC, likeL, likeB, plainOb, offs, exL, X, F, trP, trO, stepD, stepW, newA, SV.tr, SV.trL, fz, allP, Ob.tr, loadA, cellsA, SV.cells, binA, binI, eqOut, isSl, isPt, natOf, callee, snap, SV.refsL, SV.refs, thaw, fzAll, loA, hiA, elemOf, partsA, buildA, putCells, ↓reduceIte, reduceCtorEq, okCell, Nat.reduceAdd, Nat.reduceEqDiff, Nat.reduceSub, Nat.reduceMul, Nat.reduceLeDiff, Nat.reduceLT, Nat.reduceBEq, PV.scal, PV.scalL, SV.scal, SV.scalL, Ob.scal, PV.isCell, pure', resO]
    exact finA_val (by simp [retA, rvA, List.mapM_cons, List.mapM_nil, Option.pure_def, Option.bind_eq_bind, Option.bind_some, Option.map_some, mkE_cons, mk_nil, mkO_cons, mkO_nil, loadA, ↓reduceIte, List.take_succ_cons, List.take_zero, List.drop_zero, List.drop_succ_cons, List.length_cons, List.length_nil, Nat.reduceAdd, Nat.reduceEqDiff, Nat.reduceLeDiff, Nat.zero_add, Nat.le_refl, reduceCtorEq, SV.tr, SV.trL, nmF, rn_nil, rn_cons1, rn_cons2, List.map_cons, List.map_nil, List.all_cons, List.all_nil, plainOb, SV.refsL, SV.refs, Ob.refs, X, F, List.range_succ, List.range_zero, List.nil_append, List.cons_append, List.isEmpty_nil, decide_true, Nat.reduceLT, Bool.and_self, Bool.and_true, and_self, and_true, List.getElem?_cons_zero, List.getElem?_cons_succ, List.nodup_cons, List.nodup_nil, List.mem_cons, List.not_mem_nil, not_false_eq_true, or_false, List.append_nil, mkO, setO_mk, List.mem_singleton]) (by simp [SV.tr, SV.trL])
def mnI (a b : Int) : Int := if a < b then a else b
theorem mnI_min (a b : Int) : (if b < a then b else a) = mnI a b := by
  simp only [mnI]
  split <;> split <;> omega
def hdS (c : List Int) : List Int := (beS false c).getD 0 []
structure HD (c : List Int) : Prop where
  mem : hdS c ∈ splL c
  ok1 : okC (hdS c) = true
  ok2 : okC (noL c (hdS c)) = true
  lt1 : ndI false (hdS c) < ndI false c
  lt2 : ndI false (noL c (hdS c)) < ndI false c
  len : 0 < (beS false c).length
  fnd : bsF (tabK (ntT tabO) c.length 6) (ndI false c) c = some (hdS c)
theorem chkO_of {c : List Int} (hc : okC c = true) (hu : told c = false) : chkN false (ntT tabO) c = true := by
  obtain ⟨⟨l1, l3⟩, h8, hsum⟩ := okC_out hc
  have hk := keyN_bd (p := c.length) rfl h8
  have hdg := dg_key (p := c.length) rfl l3 h8
  have hch := chk_of (okP_O l1 l3) hk.2 (by rw [hdg]; exact hsum) (by rw [hdg]; exact hu)
  rwa [hdg] at hch
theorem beP_iff {c s : List Int} (hc : okC c = true) (hu : told c = false) (hs : s ∈ splL c) : boQ (tabK (ntT tabO) c.length 6) (ndI false c) c s = beP false c s := by
  have hch := chkO_of hc hu
  simp only [chkN, Bool.and_eq_true, List.all_eq_true, decide_eq_true_eq] at hch
  have hle := (hch.1 s hs).2
  obtain ⟨h1, h2⟩ := yb_okC (both := false) hc hu hs
  have hyb : yb false c s = s := rfl
  rw [hyb] at h1 hle
  have hsl := spl_len hs
  have e1 := (tab_nd h1).2
  have e2 := (tab_nd h2).2
  rw [hsl] at e1
  rw [noL_len, hsl] at e2
  simp only [boQ, beP, e1, e2, hyb]
  have n1 := (ndI_bd false h1).1
  have n2 := (ndI_bd false h2).1
  have hle2 : ndI false c ≤ 1 + mxI (ndI false s) (ndI false (noL c s)) := by
    have a1 : ndI false c = (ntT tabO (pad3 c) : Int) := rfl
    have a2 : ndI false s = (ntT tabO (pad3 s) : Int) := rfl
    have a3 : ndI false (noL c s) = (ntT tabO (pad3 (noL c s)) : Int) := rfl
    rw [a1, a2, a3]
    simp only [mxI]
    split <;> omega
  rw [dec_t n1, dec_t n2, Bool.eq_iff_iff]
  simp only [Bool.true_and, Bool.and_eq_true, decide_eq_true_eq]
  simp only [mxI] at hle2 ⊢
  constructor
  · rintro ⟨g1, g2⟩
    split at hle2 <;> split <;> omega
  · intro g
    split at g <;> omega
theorem HD.of {c : List Int} (hc : okC c = true) (hu : told c = false) : HD c := by
  have hch := chkO_of hc hu
  simp only [chkN, Bool.and_eq_true, List.all_eq_true, List.any_eq_true, decide_eq_true_eq] at hch
  obtain ⟨hall, s0, hs0, hm0⟩ := hch
  have hyb : ∀ s, yb false c s = s := fun _ => rfl
  have hle0 := (hall s0 hs0).2
  rw [hyb] at hm0 hle0
  have hp0 : beP false c s0 = true := by
    simp only [beP, hyb, decide_eq_true_eq]
    have a1 : ndI false c = (ntT tabO (pad3 c) : Int) := rfl
    have a2 : ndI false s0 = (ntT tabO (pad3 s0) : Int) := rfl
    have a3 : ndI false (noL c s0) = (ntT tabO (pad3 (noL c s0)) : Int) := rfl
    rw [a1, a2, a3]
    simp only [mxI]
    split <;> omega
  have hmem0 : s0 ∈ beS false c := List.mem_filter.2 ⟨hs0, hp0⟩
  have hlen : 0 < (beS false c).length := List.length_pos_of_mem hmem0
  have hhd : hdS c ∈ beS false c := by rw [hdS, getD_lt hlen]; exact List.getElem_mem hlen
  obtain ⟨hm, hp⟩ := List.mem_filter.1 hhd
  obtain ⟨o1, o2⟩ := yb_okC (both := false) hc hu hm
  rw [hyb] at o1
  have hlt : ndI false (hdS c) < ndI false c ∧ ndI false (noL c (hdS c)) < ndI false c := by
    simp only [beP, hyb, decide_eq_true_eq, mxI] at hp
    split at hp <;> omega
  refine ⟨hm, o1, o2, hlt.1, hlt.2, hlen, ?_⟩
  rw [bsF]
  have hfe : (splL c).find? (boQ (tabK (ntT tabO) c.length 6) (ndI false c) c) = (splL c).find? (beP false c) := by
    have key : ∀ L : List (List Int), (∀ s ∈ L, s ∈ splL c) → L.find? (boQ (tabK (ntT tabO) c.length 6) (ndI false c) c) = L.find? (beP false c) := by
      intro L
      induction L with
      | nil => intro _; rfl
      | cons s r ih =>
        intro h
        simp only [List.find?_cons, beP_iff hc hu (h s (by simp)), ih fun t ht => h t (by simp [ht])]
    exact key _ fun _ h => h
  rw [hfe, ← List.head?_filter]
  have hb : (splL c).filter (beP false c) = beS false c := rfl
  rw [hb, hdS]
  cases hL : beS false c with
  | nil => rw [hL] at hlen; simp at hlen
  | cons a r => rfl
def pthF : Nat → List Int → Int × Int
  | 0, _ => (0, 0)
  | f + 1, c => if told c = true then (0, 0) else (1 + mnI (pthF f (hdS c)).1 (pthF f (noL c (hdS c))).1, 1 + mxI (pthF f (hdS c)).2 (pthF f (noL c (hdS c))).2)
theorem pthF_bd : ∀ f c, (0 ≤ (pthF f c).1 ∧ (pthF f c).1 ≤ f) ∧ (0 ≤ (pthF f c).2 ∧ (pthF f c).2 ≤ f)
  | 0, _ => by simp [pthF]
  | f + 1, c => by
    have h1 := pthF_bd f (hdS c)
    have h2 := pthF_bd f (noL c (hdS c))
    simp only [pthF]
    split
    · simp only; omega
    · simp only [mnI, mxI]
      constructor
      · split <;> omega
      · split <;> omega
theorem pthF_succ (f : Nat) (c : List Int) : pthF (f + 1) c = if told c = true then (0, 0) else (1 + mnI (pthF f (hdS c)).1 (pthF f (noL c (hdS c))).1, 1 + mxI (pthF f (hdS c)).2 (pthF f (noL c (hdS c))).2) := rfl
theorem pthF_fuel : ∀ f c, okC c = true → (ndI false c).toNat < f → pthF (f + 1) c = pthF f c
  | 0, _, _, h => absurd h (Nat.not_lt_zero _)
  | f + 1, c, hc, h => by
    rw [pthF_succ (f + 1) c, pthF_succ f c]
    by_cases hu : told c = true
    · rw [if_pos hu, if_pos hu]
    · rw [if_neg hu, if_neg hu]
      have H := HD.of hc (by simpa using hu)
      have n1 := (ndI_bd false H.ok1).1
      have n2 := (ndI_bd false H.ok2).1
      have l1 := H.lt1
      have l2 := H.lt2
      rw [pthF_fuel f _ H.ok1 (by omega), pthF_fuel f _ H.ok2 (by omega)]
def pth (c : List Int) : Int × Int := pthF 11 c
theorem pth_bd (c : List Int) : (0 ≤ (pth c).1 ∧ (pth c).1 ≤ 11) ∧ (0 ≤ (pth c).2 ∧ (pth c).2 ≤ 11) := pthF_bd 11 c
theorem pth_step {c : List Int} (hc : okC c = true) : pth c = if told c = true then (0, 0) else (1 + mnI (pth (hdS c)).1 (pth (noL c (hdS c))).1, 1 + mxI (pth (hdS c)).2 (pth (noL c (hdS c))).2) := by
  have hb := (ndI_bd false hc)
  rw [pth, ← pthF_fuel 11 c hc (by omega), pthF]; rfl
theorem mn_bd {a b : Int} (h1 : 0 ≤ a ∧ a ≤ 11) (h2 : 0 ≤ b ∧ b ≤ 11) : IntKind.i64.wrap (1 + mnI a b) = 1 + mnI a b := by
  refine wrap64 ?_ ?_ <;> (simp only [mnI]; split <;> omega)
theorem mx_bd {a b : Int} (h1 : 0 ≤ a ∧ a ≤ 11) (h2 : 0 ≤ b ∧ b ≤ 11) : IntKind.i64.wrap (1 + mxI a b) = 1 + mxI a b := by
  refine wrap64 ?_ ?_ <;> (simp only [mxI]; split <;> omega)
def a_nPaths (f_isTold : FuncId) (f_nBest : FuncId) (f_nPaths : FuncId) : AFn := ⟨2, 
  .seq (.reg [⟨some 2, none, .w (.box 2 (.t 0))⟩,
    ⟨some 4, none, .d (.mv (.c (.int .i64 0)))⟩,
    ⟨some 5, none, .d (.mv (.c (.int .i64 0)))⟩])
  (.seq (.seq (.reg [⟨some 12, none, .d (.mv (.t 1))⟩,
    ⟨some 13, none, .d (.call (.f f_isTold) [(.t 12)])⟩])
  (.cond (.t 13) (.seq (.reg [⟨some 4, none, .d (.mv (.c (.int .i64 0)))⟩,
     ⟨some 5, none, .d (.mv (.c (.int .i64 0)))⟩])
   (.ret)) (.skip)))
  (.seq (.dreg [] [([], ⟨some 15, none, .d (.fa 0 (.t 2))⟩),
    ([], ⟨some 16, none, .d (.load false 1 (.t 15))⟩),
    ([], ⟨some 17, none, .d (.mv (.t 1))⟩),
    ([], ⟨some 18, none, .d (.load true 2 (.t 2))⟩),
    ([], ⟨some 19, none, .d (.mv (.t 1))⟩),
    ([], ⟨some 20, none, .d (.call (.f f_nBest) [(.t 18), (.t 19)])⟩),
    ([], ⟨some 21, none, .d (.ia 1 (.t 20) (.c (.int .i64 0)))⟩),
    ([], ⟨some 22, none, .d (.load false 1 (.t 21))⟩),
    ([], ⟨some 23, none, .d (.call (.t 16) [(.t 17), (.t 22)])⟩),
    ([], ⟨some 14, none, .d (.mv (.t 23))⟩),
    ([], ⟨some 24, none, .d (.extract (.t 14) 0)⟩),
    ([], ⟨some 25, none, .d (.extract (.t 14) 1)⟩),
    ([], ⟨some 6, none, .d (.mv (.t 24))⟩)] [⟨some 7, none, .d (.mv (.t 25))⟩])
  (.seq (.reg [⟨some 27, none, .d (.load true 2 (.t 2))⟩,
    ⟨some 28, none, .d (.mv (.t 6))⟩,
    ⟨some 29, none, .d (.call (.f f_nPaths) [(.t 27), (.t 28)])⟩,
    ⟨some 26, none, .d (.mv (.t 29))⟩,
    ⟨some 30, none, .d (.extract (.t 26) 0)⟩,
    ⟨some 31, none, .d (.extract (.t 26) 1)⟩,
    ⟨some 8, none, .d (.mv (.t 30))⟩,
    ⟨some 9, none, .d (.mv (.t 31))⟩])
  (.seq (.reg [⟨some 33, none, .d (.load true 2 (.t 2))⟩,
    ⟨some 34, none, .d (.mv (.t 7))⟩,
    ⟨some 35, none, .d (.call (.f f_nPaths) [(.t 33), (.t 34)])⟩,
    ⟨some 32, none, .d (.mv (.t 35))⟩,
    ⟨some 36, none, .d (.extract (.t 32) 0)⟩,
    ⟨some 37, none, .d (.extract (.t 32) 1)⟩,
    ⟨some 10, none, .d (.mv (.t 36))⟩,
    ⟨some 11, none, .d (.mv (.t 37))⟩])
  (.seq (.reg [⟨some 38, none, .d (.mv (.t 8))⟩,
    ⟨some 39, none, .d (.mv (.t 10))⟩,
    ⟨some 40, none, .d (.min2 (.t 38) (.t 39))⟩,
    ⟨some 41, none, .d (.bin .arith .add (.c (.int .i64 1)) (.t 40))⟩,
    ⟨some 42, none, .d (.mv (.t 9))⟩,
    ⟨some 43, none, .d (.mv (.t 11))⟩,
    ⟨some 44, none, .d (.max2 (.t 42) (.t 43))⟩,
    ⟨some 45, none, .d (.bin .arith .add (.c (.int .i64 1)) (.t 44))⟩,
    ⟨some 4, none, .d (.mv (.t 41))⟩,
    ⟨some 5, none, .d (.mv (.t 45))⟩])
  (.ret)))))), [.tmp 4, .tmp 5]⟩
def n_nPaths : Nat → Option Ann := fun _ => none
abbrev k_nPaths : List Nat := [0, 1, 2, 4, 5, 6, 7, 8, 9, 10, 11, 13]
abbrev o_nPaths : List Nat := [2]
def a_l10Paths (f_l4Told : FuncId) (f_l4Key : FuncId) (f_l10Best : FuncId) (f_l10Paths : FuncId) (f_l4No : FuncId) (f_l1Least : FuncId) (f_l1Most : FuncId) : AFn := ⟨2, 
  .seq (.reg [⟨some 4, none, .d (.mv (.c (.int .i64 0)))⟩,
    ⟨some 5, none, .d (.mv (.c (.int .i64 0)))⟩])
  (.seq (.seq (.reg [⟨some 11, none, .d (.mv (.t 0))⟩,
    ⟨some 12, none, .d (.call (.f f_l4Told) [(.t 11)])⟩])
  (.cond (.t 12) (.seq (.reg [⟨some 4, none, .d (.mv (.c (.int .i64 0)))⟩,
     ⟨some 5, none, .d (.mv (.c (.int .i64 0)))⟩])
   (.ret)) (.skip)))
  (.seq (.reg [⟨some 13, none, .d (.mv (.t 0))⟩,
    ⟨some 14, none, .d (.mv (.t 1))⟩,
    ⟨some 15, none, .d (.mv (.t 1))⟩,
    ⟨some 16, none, .d (.mv (.t 0))⟩,
    ⟨some 17, none, .d (.call (.f f_l4Key) [(.t 16)])⟩,
    ⟨some 18, none, .d (.ia 1 (.t 15) (.t 17))⟩,
    ⟨some 19, none, .d (.load false 1 (.t 18))⟩,
    ⟨some 20, none, .d (.call (.f f_l10Best) [(.t 13), (.t 14), (.t 19)])⟩,
    ⟨some 6, none, .d (.mv (.t 20))⟩])
  (.seq (.reg [⟨some 22, none, .d (.mv (.t 6))⟩,
    ⟨some 23, none, .d (.mv (.t 1))⟩,
    ⟨some 24, none, .d (.call (.f f_l10Paths) [(.t 22), (.t 23)])⟩,
    ⟨some 21, none, .d (.mv (.t 24))⟩,
    ⟨some 25, none, .d (.extract (.t 21) 0)⟩,
    ⟨some 26, none, .d (.extract (.t 21) 1)⟩,
    ⟨some 7, none, .d (.mv (.t 25))⟩,
    ⟨some 8, none, .d (.mv (.t 26))⟩])
  (.seq (.reg [⟨some 28, none, .d (.mv (.t 0))⟩,
    ⟨some 29, none, .d (.mv (.t 6))⟩,
    ⟨some 30, none, .d (.call (.f f_l4No) [(.t 28), (.t 29)])⟩,
    ⟨some 31, none, .d (.mv (.t 1))⟩,
    ⟨some 32, none, .d (.call (.f f_l10Paths) [(.t 30), (.t 31)])⟩,
    ⟨some 27, none, .d (.mv (.t 32))⟩,
    ⟨some 33, none, .d (.extract (.t 27) 0)⟩,
    ⟨some 34, none, .d (.extract (.t 27) 1)⟩,
    ⟨some 9, none, .d (.mv (.t 33))⟩,
    ⟨some 10, none, .d (.mv (.t 34))⟩])
  (.seq (.reg [⟨some 35, none, .d (.mv (.t 7))⟩,
    ⟨some 36, none, .d (.mv (.t 9))⟩,
    ⟨some 37, none, .d (.call (.f f_l1Least) [(.t 35), (.t 36)])⟩,
    ⟨some 38, none, .d (.bin .arith .add (.c (.int .i64 1)) (.t 37))⟩,
    ⟨some 39, none, .d (.mv (.t 8))⟩,
    ⟨some 40, none, .d (.mv (.t 10))⟩,
    ⟨some 41, none, .d (.call (.f f_l1Most) [(.t 39), (.t 40)])⟩,
    ⟨some 42, none, .d (.bin .arith .add (.c (.int .i64 1)) (.t 41))⟩,
    ⟨some 4, none, .d (.mv (.t 38))⟩,
    ⟨some 5, none, .d (.mv (.t 42))⟩])
  (.ret)))))), [.tmp 4, .tmp 5]⟩
def n_l10Paths : Nat → Option Ann := fun _ => none
abbrev k_l10Paths : List Nat := [0, 1, 4, 5, 6, 7, 8, 9, 10, 12]
abbrev o_l10Paths : List Nat := []
open Classical in
noncomputable def c_nPaths (Γ2 Γ1 : Gam) : Con := pure' fun
  | [.p (.agg [.fn g [] [], .mapv es]), .p (.sl 1 c_)] => if Γ2 g = c_oneWay ∧ Γ1 g = c_oneWay ∧ es = nES false ∧ isI c_ = true ∧ okC (ofI c_) = true then some (.tp [.p (.int .i64 (pth (ofI c_)).1), .p (.int .i64 (pth (ofI c_)).2)], []) else none
  | _ => none
def muP : List SV → List Ob → Nat := fun args _ => match args with
  | [_, .p (.sl _ c_)] => (ndI false (ofI c_)).toNat
  | _ => 0
theorem nPaths_walk {P : Program} (hm : P.follows .mixedOrders = true) {Γ Γ1 Γ2 : Gam} (hΓ : GS P Γ) {n f_isTold f_nBest f_nPaths : FuncId} {k : Nat} (is : Is P n (a_nPaths f_isTold f_nBest f_nPaths)) (h_isTold : Γ f_isTold = c_isTold) (h_nBest : Γ f_nBest = c_nBest Γ2) (h_nPaths : Γ f_nPaths = lim muP k (c_nPaths Γ2 Γ1)) (hsame : ∀ g, Γ1 g = c_oneWay → Γ g = c_oneWay) : ∀ args ext r ext' fs, c_nPaths Γ2 Γ1 args ext = some (r, ext', fs) → muP args ext ≤ k → PC P n args ext r ext' fs := by
  intro args ext r ext' fs h hmu
  unfold c_nPaths pure' at h
  split at h
  case h_2 => cases h
  rename_i ext
  simp only [Option.map_eq_some_iff, Prod.mk.injEq] at h
  obtain ⟨⟨r0, fs0⟩, h, rfl, rfl, rfl⟩ := h
  split at h
  case h_2 => cases h
  rename_i g es c_
  split at h
  case isFalse => cases h
  rename_i hc
  obtain ⟨hg2, hg1, rfl, hc_, hok⟩ := hc
  obtain ⟨c, rfl⟩ := isI_out hc_
  simp only [ofI_ints, Option.some.injEq, Prod.mk.injEq, muP] at h hok hmu
  obtain ⟨rfl, rfl⟩ := h
  have hg := hsame g hg1
  have hst := pth_step hok
  obtain ⟨⟨l1, l3⟩, h8, _⟩ := okC_out hok
  have hcl : c.length ≤ 1100000 := by omega
  cases hu : told c with
  | true =>
    rw [hu] at hst
    simp only [if_true] at hst
    rw [hst]
    refine is.go hm hΓ k_nPaths o_nPaths (by simp [a_nPaths]) ?_
    simp only [a_nPaths, h_isTold, c_isTold, h_nPaths, hu, hcl, l1, l3, h8, hok, isI_ints, ofI_ints, ints_len, List.zipIdx_cons, List.zipIdx_nil, ↓SP, SQ, Gam.add, stepM, callC, argC, lendO, nmBy, nmC, likeL, likeB, plainOb, offs, exL, X, F, trP, trO, stepD, stepW, newA, SV.tr, SV.trL, fz, allP, Ob.tr, loadA, cellsA, SV.cells, binA, binI, eqOut, isSl, isPt, natOf, callee, snap, SV.refsL, SV.refs, thaw, fzAll, loA, hiA, elemOf, partsA, buildA, putCells, ↓reduceIte, reduceCtorEq, okCell, Nat.reduceAdd, Nat.reduceEqDiff, Nat.reduceSub, Nat.reduceMul, Nat.reduceLeDiff, Nat.reduceLT, Nat.reduceBEq, PV.scal, PV.scalL, SV.scal, SV.scalL, Ob.scal, PV.isCell, pure', resO]
    exact finA_val (by simp [retA, rvA, List.mapM_cons, List.mapM_nil, Option.pure_def, Option.bind_eq_bind, Option.bind_some, Option.map_some, mkE_cons, mk_nil, mkO_cons, mkO_nil, loadA, ↓reduceIte, List.take_succ_cons, List.take_zero, List.drop_zero, List.drop_succ_cons, List.length_cons, List.length_nil, Nat.reduceAdd, Nat.reduceEqDiff, Nat.reduceLeDiff, Nat.zero_add, Nat.le_refl, reduceCtorEq, SV.tr, SV.trL, nmF, rn_nil, rn_cons1, rn_cons2, List.map_cons, List.map_nil, List.all_cons, List.all_nil, plainOb, SV.refsL, SV.refs, Ob.refs, X, F, List.range_succ, List.range_zero, List.nil_append, List.cons_append, List.isEmpty_nil, decide_true, Nat.reduceLT, Bool.and_self, Bool.and_true, and_self, and_true, List.getElem?_cons_zero, List.getElem?_cons_succ, List.nodup_cons, List.nodup_nil, List.mem_cons, List.not_mem_nil, not_false_eq_true, or_false, List.append_nil, mkO, setO_mk, List.mem_singleton]) (by simp [SV.tr, SV.trL])
  | false =>
    rw [hu] at hst
    simp only [Bool.false_eq_true, if_false] at hst
    rw [hst]
    have H := HD.of hok hu
    have hE := okE_nES false
    have hr : isRule Γ2 g false := by simpa [isRule] using hg2
    have hbl := beL_nES hr hok hu
    have hba := be_any hr hok hu
    have htk := sls_app_take (beS false c) (List.replicate ((splL c).length - (beS false c).length) .nilsl)
    have hlen := H.len
    have hgt := sls_get (L := beS false c) (i := 0) hlen
    have hhd : (beS false c).getD 0 [] = hdS c := rfl
    rw [hhd] at hgt
    have hsl := spl_len H.mem
    have hsl' : (hdS c).length ≤ 1100000 := by omega
    have hbc : bd 1000 c = true := bd_in8 h8 (by omega)
    have hs8 := spl_in8 h8 H.mem
    have hbs : bd 1000 (hdS c) = true := bd_in8 hs8 (by omega)
    have n1 := (ndI_bd false H.ok1).1
    have n2 := (ndI_bd false H.ok2).1
    have m1 : (ndI false (hdS c)).toNat < k := by have := H.lt1; omega
    have m2 : (ndI false (noL c (hdS c))).toNat < k := by have := H.lt2; omega
    have hok1 := H.ok1
    have hok2 := H.ok2
    have w1 := mn_bd (pth_bd (hdS c)).1 (pth_bd (noL c (hdS c))).1
    have w2 := mx_bd (pth_bd (hdS c)).2 (pth_bd (noL c (hdS c))).2
    refine is.go hm hΓ k_nPaths o_nPaths (by simp [a_nPaths]) ?_
    simp only [a_nPaths, h_isTold, c_isTold, h_nPaths, hu, hcl, l1, l3, h8, hok, hok1, hok2, hE, hbl, hba, htk, hlen, hgt, hg, c_oneWay, hg1, hg2, hsl, hsl', hbc, hbs, lim, muP, m1, m2, w1, w2, mnI_min, mxI_max, h_nBest, c_nBest, c_nPaths, or_true, Nat.sub_zero, List.drop_zero, Int.le_refl, Int.toNat_zero, sls_len, isI_ints, ofI_ints, ints_len, List.zipIdx_cons, List.zipIdx_nil, ↓SP, SQ, Gam.add, stepM, callC, argC, lendO, nmBy, nmC, likeL, likeB, plainOb, offs, exL, X, F, trP, trO, stepD, stepW, newA, SV.tr, SV.trL, fz, allP, Ob.tr, loadA, cellsA, SV.cells, binA, binI, eqOut, isSl, isPt, natOf, callee, snap, SV.refsL, SV.refs, thaw, fzAll, loA, hiA, elemOf, partsA, buildA, putCells, ↓reduceIte, reduceCtorEq, okCell, Nat.reduceAdd, Nat.reduceEqDiff, Nat.reduceSub, Nat.reduceMul, Nat.reduceLeDiff, Nat.reduceLT, Nat.reduceBEq, PV.scal, PV.scalL, SV.scal, SV.scalL, Ob.scal, PV.isCell, pure', resO]
    exact finA_val (by simp [retA, rvA, List.mapM_cons, List.mapM_nil, Option.pure_def, Option.bind_eq_bind, Option.bind_some, Option.map_some, mkE_cons, mk_nil, mkO_cons, mkO_nil, loadA, ↓reduceIte, List.take_succ_cons, List.take_zero, List.drop_zero, List.drop_succ_cons, List.length_cons, List.length_nil, Nat.reduceAdd, Nat.reduceEqDiff, Nat.reduceLeDiff, Nat.zero_add, Nat.le_refl, reduceCtorEq, SV.tr, SV.trL, nmF, rn_nil, rn_cons1, rn_cons2, List.map_cons, List.map_nil, List.all_cons, List.all_nil, plainOb, SV.refsL, SV.refs, Ob.refs, X, F, List.range_succ, List.range_zero, List.nil_append, List.cons_append, List.isEmpty_nil, decide_true, Nat.reduceLT, Bool.and_self, Bool.and_true, and_self, and_true, List.getElem?_cons_zero, List.getElem?_cons_succ, List.nodup_cons, List.nodup_nil, List.mem_cons, List.not_mem_nil, not_false_eq_true, or_false, List.append_nil, mkO, setO_mk, List.mem_singleton]) (by simp [SV.tr, SV.trL])
def v1 : List SV := [.p (.sl 1 (ints [0])), .p (.sl 1 (ints [0]))]
theorem v1_one : c_oneWay v1 [] ≠ none := by simp [v1, c_oneWay, pure', isI_ints, ofI_ints, bd]
theorem s_nPaths {P : Program} (hm : P.follows .mixedOrders = true) {Γ Γ2 : Gam} (hΓ : GS P Γ) {n f_isTold f_nBest : FuncId} (is : Is P n (a_nPaths f_isTold f_nBest n)) (hne : f_isTold ≠ n ∧ f_nBest ≠ n) (h_isTold : Γ f_isTold = c_isTold) (h_nBest : Γ f_nBest = c_nBest Γ2) (h_none : Γ n v1 [] = none) : Says P n (c_nPaths Γ2 Γ) := by
  refine Says.rec hΓ muP fun k hk args ext r ext' fs h hmu => ?_
  refine nPaths_walk (k := k) (Γ1 := Γ) (Γ2 := Γ2) hm hk is (by simp [Gam.addX, hne.1, h_isTold]) (by simp [Gam.addX, hne.2, h_nBest]) (by simp [Gam.addX]) (fun g hg => ?_) args ext r ext' fs h (by omega)
  by_cases hgn : g = n
  · exfalso
    rw [hgn] at hg
    rw [hg] at h_none
    exact v1_one h_none
  · simp [Gam.addX, hgn, hg]
def c_l10Paths : Con := pure' fun
  | [.p (.sl 1 c_), .p (.sl 1 t_)] => if isI c_ = true ∧ isI t_ = true ∧ okC (ofI c_) = true ∧ ofI t_ = tabK (ntT tabO) (ofI c_).length 6 then some (.tp [.p (.int .i64 (pth (ofI c_)).1), .p (.int .i64 (pth (ofI c_)).2)], []) else none
  | _ => none
def muQ : List SV → List Ob → Nat := fun args _ => match args with
  | [.p (.sl _ c_), _] => (ndI false (ofI c_)).toNat
  | _ => 0
theorem l10Paths_walk {P : Program} (hm : P.follows .mixedOrders = true) {Γ : Gam} (hΓ : GS P Γ) {n f_l4Told f_l4Key f_l10Best f_l10Paths f_l4No f_l1Least f_l1Most : FuncId} {k : Nat} (is : Is P n (a_l10Paths f_l4Told f_l4Key f_l10Best f_l10Paths f_l4No f_l1Least f_l1Most)) (h_l4Told : Γ f_l4Told = c_isTold) (h_l4Key : Γ f_l4Key = c_l4Key) (h_l10Best : Γ f_l10Best = c_l10Best) (h_l4No : Γ f_l4No = c_l4No) (h_l1Least : Γ f_l1Least = c_l1Least) (h_l1Most : Γ f_l1Most = c_l1Most) (h_l10Paths : Γ f_l10Paths = lim muQ k c_l10Paths) : ∀ args ext r ext' fs, c_l10Paths args ext = some (r, ext', fs) → muQ args ext ≤ k → PC P n args ext r ext' fs := by
  intro args ext r ext' fs h hmu
  unfold c_l10Paths pure' at h
  split at h
  case h_2 => cases h
  rename_i ext
  simp only [Option.map_eq_some_iff, Prod.mk.injEq] at h
  obtain ⟨⟨r0, fs0⟩, h, rfl, rfl, rfl⟩ := h
  split at h
  case h_2 => cases h
  rename_i c_ t_
  split at h
  case isFalse => cases h
  rename_i hc
  obtain ⟨hc_, ht_, hok, htb⟩ := hc
  obtain ⟨c, rfl⟩ := isI_out hc_
  obtain ⟨t, rfl⟩ := isI_out ht_
  simp only [ofI_ints, Option.some.injEq, Prod.mk.injEq, muQ] at h hok hmu htb
  obtain ⟨rfl, rfl⟩ := h
  subst htb
  have hst := pth_step hok
  obtain ⟨⟨l1, l3⟩, h8, _⟩ := okC_out hok
  have hcl : c.length ≤ 1100000 := by omega
  refine is.go hm hΓ k_l10Paths o_l10Paths (by simp [a_l10Paths]) ?_
  cases hu : told c with
  | true =>
    rw [hu] at hst
    simp only [if_true] at hst
    rw [hst]
    simp only [a_l10Paths, h_l4Told, c_isTold, hu, hcl, l1, l3, h8, hok, isI_ints, ofI_ints, ints_len, List.zipIdx_cons, List.zipIdx_nil, ↓SP, SQ, Gam.add, stepM, callC, argC, lendO, nmBy, nmC, likeL, likeB, plainOb, offs, exL, X, F, trP, trO, stepD, stepW, newA, SV.tr, SV.trL, fz, allP, Ob.tr, loadA, cellsA, SV.cells, binA, binI, eqOut, isSl, isPt, natOf, callee, snap, SV.refsL, SV.refs, thaw, fzAll, loA, hiA, elemOf, partsA, buildA, putCells, ↓reduceIte, reduceCtorEq, okCell, Nat.reduceAdd, Nat.reduceEqDiff, Nat.reduceSub, Nat.reduceMul, Nat.reduceLeDiff, Nat.reduceLT, Nat.reduceBEq, PV.scal, PV.scalL, SV.scal, SV.scalL, Ob.scal, PV.isCell, pure', resO]
    exact finA_val (by simp [retA, rvA, List.mapM_cons, List.mapM_nil, Option.pure_def, Option.bind_eq_bind, Option.bind_some, Option.map_some, mkE_cons, mk_nil, mkO_cons, mkO_nil, loadA, ↓reduceIte, List.take_succ_cons, List.take_zero, List.drop_zero, List.drop_succ_cons, List.length_cons, List.length_nil, Nat.reduceAdd, Nat.reduceEqDiff, Nat.reduceLeDiff, Nat.zero_add, Nat.le_refl, reduceCtorEq, SV.tr, SV.trL, nmF, rn_nil, rn_cons1, rn_cons2, List.map_cons, List.map_nil, List.all_cons, List.all_nil, plainOb, SV.refsL, SV.refs, Ob.refs, X, F, List.range_succ, List.range_zero, List.nil_append, List.cons_append, List.isEmpty_nil, decide_true, Nat.reduceLT, Bool.and_self, Bool.and_true, and_self, and_true, List.getElem?_cons_zero, List.getElem?_cons_succ, List.nodup_cons, List.nodup_nil, List.mem_cons, List.not_mem_nil, not_false_eq_true, or_false, List.append_nil, mkO, setO_mk, List.mem_singleton]) (by simp [SV.tr, SV.trL])
  | false =>
    rw [hu] at hst
    simp only [Bool.false_eq_true, if_false] at hst
    rw [hst]
    have H := HD.of hok hu
    have hokw := okw_of hok hu
    have htl := tabK_len (ntT tabO) c.length 6
    obtain ⟨k0, k1⟩ := keyN_bd (p := c.length) rfl h8
    have hkk : (keyL c).toNat = keyN c := rfl
    have hg := ints_get (l := tabK (ntT tabO) c.length 6) (i := keyN c) (by rw [tabK_len]; exact k1)
    rw [(tab_nd hok).2] at hg
    have hfnd := H.fnd
    have hsl := spl_len H.mem
    have hsl' : (hdS c).length ≤ 1100000 := by omega
    have hbc : bd 1000 c = true := bd_in8 h8 (by omega)
    have hbc4 : bd 10000 c = true := bd_in8 h8 (by omega)
    have hs8 := spl_in8 h8 H.mem
    have hbs : bd 1000 (hdS c) = true := bd_in8 hs8 (by omega)
    have hbs4 : bd 10000 (hdS c) = true := bd_in8 hs8 (by omega)
    have n1 := (ndI_bd false H.ok1).1
    have n2 := (ndI_bd false H.ok2).1
    have m1 : (ndI false (hdS c)).toNat < k := by have := H.lt1; omega
    have m2 : (ndI false (noL c (hdS c))).toNat < k := by have := H.lt2; omega
    have hok1 := H.ok1
    have hok2 := H.ok2
    have hnl : (noL c (hdS c)).length = c.length := by rw [noL_len, hsl]
    have w1 := mn_bd (pth_bd (hdS c)).1 (pth_bd (noL c (hdS c))).1
    have w2 := mx_bd (pth_bd (hdS c)).2 (pth_bd (noL c (hdS c))).2
    have e1 : ∀ a b : Int, (if a < b then a else b) = mnI a b := fun _ _ => rfl
    have e2 : ∀ a b : Int, (if a > b then a else b) = mxI a b := fun _ _ => rfl
    simp only [a_l10Paths, h_l4Told, c_isTold, h_l4Key, c_l4Key, h_l10Best, c_l10Best, h_l4No, c_l4No, h_l1Least, c_l1Least, h_l1Most, c_l1Most, h_l10Paths, c_l10Paths, lim, muQ, hu, hcl, l1, l3, h8, hok, hok1, hok2, hokw, htl, k0, hkk, hg, hfnd, hsl, hsl', hbc, hbc4, hbs, hbs4, m1, m2, hnl, w1, w2, e1, e2, isI_ints, ofI_ints, ints_len, List.zipIdx_cons, List.zipIdx_nil, ↓SP, SQ, Gam.add, stepM, callC, argC, lendO, nmBy, nmC, likeL, likeB, plainOb, offs, exL, X, F, trP, trO, stepD, stepW, newA, SV.tr, SV.trL, fz, allP, Ob.tr, loadA, cellsA, SV.cells, binA, binI, eqOut, isSl, isPt, natOf, callee, snap, SV.refsL, SV.refs, thaw, fzAll, loA, hiA, elemOf, partsA, buildA, putCells, ↓reduceIte, reduceCtorEq, okCell, Nat.reduceAdd, Nat.reduceEqDiff, Nat.reduceSub, Nat.reduceMul, Nat.reduceLeDiff, Nat.reduceLT, Nat.reduceBEq, PV.scal, PV.scalL, SV.scal, SV.scalL, Ob.scal, PV.isCell, pure', resO]
    exact finA_val (by simp [retA, rvA, List.mapM_cons, List.mapM_nil, Option.pure_def, Option.bind_eq_bind, Option.bind_some, Option.map_some, mkE_cons, mk_nil, mkO_cons, mkO_nil, loadA, ↓reduceIte, List.take_succ_cons, List.take_zero, List.drop_zero, List.drop_succ_cons, List.length_cons, List.length_nil, Nat.reduceAdd, Nat.reduceEqDiff, Nat.reduceLeDiff, Nat.zero_add, Nat.le_refl, reduceCtorEq, SV.tr, SV.trL, nmF, rn_nil, rn_cons1, rn_cons2, List.map_cons, List.map_nil, List.all_cons, List.all_nil, plainOb, SV.refsL, SV.refs, Ob.refs, X, F, List.range_succ, List.range_zero, List.nil_append, List.cons_append, List.isEmpty_nil, decide_true, Nat.reduceLT, Bool.and_self, Bool.and_true, and_self, and_true, List.getElem?_cons_zero, List.getElem?_cons_succ, List.nodup_cons, List.nodup_nil, List.mem_cons, List.not_mem_nil, not_false_eq_true, or_false, List.append_nil, mkO, setO_mk, List.mem_singleton]) (by simp [SV.tr, SV.trL])
theorem s_l10Paths {P : Program} (hm : P.follows .mixedOrders = true) {Γ : Gam} (hΓ : GS P Γ) {n f_l4Told f_l4Key f_l10Best f_l4No f_l1Least f_l1Most : FuncId} (is : Is P n (a_l10Paths f_l4Told f_l4Key f_l10Best n f_l4No f_l1Least f_l1Most)) (hne : f_l4Told ≠ n ∧ f_l4Key ≠ n ∧ f_l10Best ≠ n ∧ f_l4No ≠ n ∧ f_l1Least ≠ n ∧ f_l1Most ≠ n) (h_l4Told : Γ f_l4Told = c_isTold) (h_l4Key : Γ f_l4Key = c_l4Key) (h_l10Best : Γ f_l10Best = c_l10Best) (h_l4No : Γ f_l4No = c_l4No) (h_l1Least : Γ f_l1Least = c_l1Least) (h_l1Most : Γ f_l1Most = c_l1Most) : Says P n c_l10Paths := by
  refine Says.rec hΓ muQ fun k hk args ext r ext' fs h hmu => ?_
  obtain ⟨n1, n2, n3, n4, n5, n6⟩ := hne
  exact l10Paths_walk (k := k) hm hk is (by simp [Gam.addX, n1, h_l4Told]) (by simp [Gam.addX, n2, h_l4Key]) (by simp [Gam.addX, n3, h_l10Best]) (by simp [Gam.addX, n4, h_l4No]) (by simp [Gam.addX, n5, h_l1Least]) (by simp [Gam.addX, n6, h_l1Most]) (by simp [Gam.addX]) args ext r ext' fs h (by omega)
def a_OneWayPaths (f_AreCounts : FuncId) (f_neederOf : FuncId) (f_oneWay : FuncId) (f_nPaths : FuncId) : AFn := ⟨1, 
  .seq (.reg [⟨some 2, none, .d (.mv (.c (.int .i64 0)))⟩,
    ⟨some 3, none, .d (.mv (.c (.int .i64 0)))⟩,
    ⟨some 4, none, .d (.mv (.c (.bool false)))⟩])
  (.seq (.seq (.reg [⟨some 7, none, .d (.mv (.t 0))⟩,
    ⟨some 8, none, .d (.call (.f f_AreCounts) [(.t 7)])⟩,
    ⟨some 9, none, .d (.not (.t 8))⟩])
  (.cond (.t 9) (.seq (.reg [⟨some 2, none, .d (.mv (.c (.int .i64 0)))⟩,
     ⟨some 3, none, .d (.mv (.c (.int .i64 0)))⟩,
     ⟨some 4, none, .d (.mv (.c (.bool false)))⟩])
   (.ret)) (.skip)))
  (.seq (.reg [⟨some 11, none, .d (.call (.f f_neederOf) [(.f f_oneWay)])⟩,
    ⟨some 12, none, .d (.mv (.t 0))⟩,
    ⟨some 13, none, .d (.call (.f f_nPaths) [(.t 11), (.t 12)])⟩,
    ⟨some 10, none, .d (.mv (.t 13))⟩,
    ⟨some 14, none, .d (.extract (.t 10) 0)⟩,
    ⟨some 15, none, .d (.extract (.t 10) 1)⟩,
    ⟨some 5, none, .d (.mv (.t 14))⟩,
    ⟨some 6, none, .d (.mv (.t 15))⟩])
  (.seq (.reg [⟨some 16, none, .d (.mv (.t 5))⟩,
    ⟨some 17, none, .d (.mv (.t 6))⟩,
    ⟨some 2, none, .d (.mv (.t 16))⟩,
    ⟨some 3, none, .d (.mv (.t 17))⟩,
    ⟨some 4, none, .d (.mv (.c (.bool true)))⟩])
  (.ret)))), [.tmp 2, .tmp 3, .tmp 4]⟩
def n_OneWayPaths : Nat → Option Ann := fun _ => none
abbrev k_OneWayPaths : List Nat := [0, 2, 3, 4, 5, 6, 9]
abbrev o_OneWayPaths : List Nat := []
def a_s_OneWayPaths (f_l4Counts : FuncId) (f_l10Needs : FuncId) (f_l10Paths : FuncId) : AFn := ⟨1, 
  .seq (.reg [⟨some 2, none, .d (.mv (.c (.int .i64 0)))⟩,
    ⟨some 3, none, .d (.mv (.c (.int .i64 0)))⟩,
    ⟨some 4, none, .d (.mv (.c (.bool false)))⟩])
  (.seq (.seq (.reg [⟨some 7, none, .d (.mv (.t 0))⟩,
    ⟨some 8, none, .d (.call (.f f_l4Counts) [(.t 7)])⟩,
    ⟨some 9, none, .d (.not (.t 8))⟩])
  (.cond (.t 9) (.seq (.reg [⟨some 2, none, .d (.mv (.c (.int .i64 0)))⟩,
     ⟨some 3, none, .d (.mv (.c (.int .i64 0)))⟩,
     ⟨some 4, none, .d (.mv (.c (.bool false)))⟩])
   (.ret)) (.skip)))
  (.seq (.reg [⟨some 11, none, .d (.mv (.t 0))⟩,
    ⟨some 12, none, .d (.mv (.t 0))⟩,
    ⟨some 13, none, .d (.len (.t 12))⟩,
    ⟨some 14, none, .d (.call (.f f_l10Needs) [(.t 13)])⟩,
    ⟨some 15, none, .d (.call (.f f_l10Paths) [(.t 11), (.t 14)])⟩,
    ⟨some 10, none, .d (.mv (.t 15))⟩,
    ⟨some 16, none, .d (.extract (.t 10) 0)⟩,
    ⟨some 17, none, .d (.extract (.t 10) 1)⟩,
    ⟨some 5, none, .d (.mv (.t 16))⟩,
    ⟨some 6, none, .d (.mv (.t 17))⟩])
  (.seq (.reg [⟨some 18, none, .d (.mv (.t 5))⟩,
    ⟨some 19, none, .d (.mv (.t 6))⟩,
    ⟨some 2, none, .d (.mv (.t 18))⟩,
    ⟨some 3, none, .d (.mv (.t 19))⟩,
    ⟨some 4, none, .d (.mv (.c (.bool true)))⟩])
  (.ret)))), [.tmp 2, .tmp 3, .tmp 4]⟩
def n_s_OneWayPaths : Nat → Option Ann := fun _ => none
abbrev k_s_OneWayPaths : List Nat := [0, 2, 3, 4, 5, 6, 9]
abbrev o_s_OneWayPaths : List Nat := []
def c_OneWayPaths : Con := pure' fun
  | [.p (.sl 1 c_)] => if isI c_ = true ∧ ((ofI c_).length ≤ 1100000) then some (.tp [.p (.int .i64 (if okC (ofI c_) = true then (pth (ofI c_)).1 else 0)), .p (.int .i64 (if okC (ofI c_) = true then (pth (ofI c_)).2 else 0)), .p (.bool (okC (ofI c_)))], []) else none
  | _ => none
theorem s_OneWayPaths {P : Program} (hm : P.follows .mixedOrders = true) {Γ : Gam} (hΓ : GS P Γ) {n : FuncId} {f_AreCounts : FuncId} {f_neederOf : FuncId} {f_oneWay : FuncId} {f_nPaths : FuncId} (is : Is P n (a_OneWayPaths f_AreCounts f_neederOf f_oneWay f_nPaths)) (h_AreCounts : Γ f_AreCounts = c_AreCounts) {Γ1 Γ2 Γ3 : Gam} (h_neederOf : Γ f_neederOf = c_neederOf Γ1) (h_oneWay : Γ1 f_oneWay = c_oneWay) (h_nPaths : Γ f_nPaths = c_nPaths Γ2 Γ3) (h_oneWay2 : Γ2 f_oneWay = c_oneWay) (h_oneWay3 : Γ3 f_oneWay = c_oneWay) : Says P n c_OneWayPaths := by
  refine Says.pure fun args r fs h => ?_
  split at h
  case h_2 => cases h
  rename_i c_
  split at h
  case isFalse => cases h
  rename_i hc
  obtain ⟨hc_, hc⟩ := hc
  obtain ⟨c, rfl⟩ := isI_out hc_
  simp only [ofI_ints, ofBo_bools, ofAs_asks, Option.some.injEq, Prod.mk.injEq] at h hc
  obtain ⟨rfl, rfl⟩ := h
  cases h1 : okC c with
  | false =>
    refine is.go hm hΓ k_OneWayPaths o_OneWayPaths (by simp [a_OneWayPaths]) ?_
    simp only [a_OneWayPaths, h_AreCounts, c_AreCounts, hc, h1, Bool.false_eq_true, List.zipIdx_cons, List.zipIdx_nil, ↓SP, SQ, Gam.add, stepM, callC, argC, lendO, nmBy, nmC, likeL, likeB, plainOb, offs, exL, X, F, trP, trO, stepD, stepW, newA, SV.tr, SV.trL, fz, allP, Ob.tr, loadA, cellsA, SV.cells, binA, binI, eqOut, isSl, isPt, natOf, callee, snap, SV.refsL, SV.refs, thaw, fzAll, loA, hiA, elemOf, partsA, buildA, putCells, ↓reduceIte, reduceCtorEq, okCell, Nat.reduceAdd, Nat.reduceEqDiff, Nat.reduceSub, Nat.reduceMul, Nat.reduceLeDiff, Nat.reduceLT, Nat.reduceBEq, PV.scal, PV.scalL, SV.scal, SV.scalL, Ob.scal, PV.isCell, pure', resO]
    exact finA_val (by simp [retA, rvA, List.mapM_cons, List.mapM_nil, Option.pure_def, Option.bind_eq_bind, Option.bind_some, Option.map_some, mkE_cons, mk_nil, mkO_cons, mkO_nil, loadA, ↓reduceIte, List.take_succ_cons, List.take_zero, List.drop_zero, List.drop_succ_cons, List.length_cons, List.length_nil, Nat.reduceAdd, Nat.reduceEqDiff, Nat.reduceLeDiff, Nat.zero_add, Nat.le_refl, reduceCtorEq, SV.tr, SV.trL, nmF, rn_nil, rn_cons1, rn_cons2, List.map_cons, List.map_nil, List.all_cons, List.all_nil, plainOb, SV.refsL, SV.refs, Ob.refs, X, F, List.range_succ, List.range_zero, List.nil_append, List.cons_append, List.isEmpty_nil, decide_true, Nat.reduceLT, Bool.and_self, Bool.and_true, and_self, and_true, List.getElem?_cons_zero, List.getElem?_cons_succ, List.nodup_cons, List.nodup_nil, List.mem_cons, List.not_mem_nil, not_false_eq_true, or_false, List.append_nil, mkO, setO_mk, List.mem_singleton]) (by simp [SV.tr, SV.trL])
  | true =>
    have hne := neederOf_one h_oneWay
    refine is.go hm hΓ k_OneWayPaths o_OneWayPaths (by simp [a_OneWayPaths]) ?_
    simp only [a_OneWayPaths, h_AreCounts, c_AreCounts, hc, h1, h_neederOf, hne, h_nPaths, c_nPaths, h_oneWay2, h_oneWay3, isI_ints, ofI_ints, ints_len, List.zipIdx_cons, List.zipIdx_nil, ↓SP, SQ, Gam.add, stepM, callC, argC, lendO, nmBy, nmC, likeL, likeB, plainOb, offs, exL, X, F, trP, trO, stepD, stepW, newA, SV.tr, SV.trL, fz, allP, Ob.tr, loadA, cellsA, SV.cells, binA, binI, eqOut, isSl, isPt, natOf, callee, snap, SV.refsL, SV.refs, thaw, fzAll, loA, hiA, elemOf, partsA, buildA, putCells, ↓reduceIte, reduceCtorEq, okCell, Nat.reduceAdd, Nat.reduceEqDiff, Nat.reduceSub, Nat.reduceMul, Nat.reduceLeDiff, Nat.reduceLT, Nat.reduceBEq, PV.scal, PV.scalL, SV.scal, SV.scalL, Ob.scal, PV.isCell, pure', resO]
    exact finA_val (by simp [retA, rvA, List.mapM_cons, List.mapM_nil, Option.pure_def, Option.bind_eq_bind, Option.bind_some, Option.map_some, mkE_cons, mk_nil, mkO_cons, mkO_nil, loadA, ↓reduceIte, List.take_succ_cons, List.take_zero, List.drop_zero, List.drop_succ_cons, List.length_cons, List.length_nil, Nat.reduceAdd, Nat.reduceEqDiff, Nat.reduceLeDiff, Nat.zero_add, Nat.le_refl, reduceCtorEq, SV.tr, SV.trL, nmF, rn_nil, rn_cons1, rn_cons2, List.map_cons, List.map_nil, List.all_cons, List.all_nil, plainOb, SV.refsL, SV.refs, Ob.refs, X, F, List.range_succ, List.range_zero, List.nil_append, List.cons_append, List.isEmpty_nil, decide_true, Nat.reduceLT, Bool.and_self, Bool.and_true, and_self, and_true, List.getElem?_cons_zero, List.getElem?_cons_succ, List.nodup_cons, List.nodup_nil, List.mem_cons, List.not_mem_nil, not_false_eq_true, or_false, List.append_nil, mkO, setO_mk, List.mem_singleton]) (by simp [SV.tr, SV.trL])
theorem s_s_OneWayPaths {P : Program} (hm : P.follows .mixedOrders = true) {Γ : Gam} (hΓ : GS P Γ) {n : FuncId} {f_l4Counts : FuncId} {f_l10Needs : FuncId} {f_l10Paths : FuncId} (is : Is P n (a_s_OneWayPaths f_l4Counts f_l10Needs f_l10Paths)) (h_l4Counts : Γ f_l4Counts = c_AreCounts) (h_l10Needs : Γ f_l10Needs = c_l10Needs) (h_l10Paths : Γ f_l10Paths = c_l10Paths)  : Says P n c_OneWayPaths := by
  refine Says.pure fun args r fs h => ?_
  split at h
  case h_2 => cases h
  rename_i c_
  split at h
  case isFalse => cases h
  rename_i hc
  obtain ⟨hc_, hc⟩ := hc
  obtain ⟨c, rfl⟩ := isI_out hc_
  simp only [ofI_ints, ofBo_bools, ofAs_asks, Option.some.injEq, Prod.mk.injEq] at h hc
  obtain ⟨rfl, rfl⟩ := h
  cases h1 : okC c with
  | false =>
    refine is.go hm hΓ k_s_OneWayPaths o_s_OneWayPaths (by simp [a_s_OneWayPaths]) ?_
    simp only [a_s_OneWayPaths, h_l4Counts, c_AreCounts, h_l10Needs, c_l10Needs, h_l10Paths, c_l10Paths, hc, h1, Bool.false_eq_true, List.zipIdx_cons, List.zipIdx_nil, ↓SP, SQ, Gam.add, stepM, callC, argC, lendO, nmBy, nmC, likeL, likeB, plainOb, offs, exL, X, F, trP, trO, stepD, stepW, newA, SV.tr, SV.trL, fz, allP, Ob.tr, loadA, cellsA, SV.cells, binA, binI, eqOut, isSl, isPt, natOf, callee, snap, SV.refsL, SV.refs, thaw, fzAll, loA, hiA, elemOf, partsA, buildA, putCells, ↓reduceIte, reduceCtorEq, okCell, Nat.reduceAdd, Nat.reduceEqDiff, Nat.reduceSub, Nat.reduceMul, Nat.reduceLeDiff, Nat.reduceLT, Nat.reduceBEq, PV.scal, PV.scalL, SV.scal, SV.scalL, Ob.scal, PV.isCell, pure', resO]
    exact finA_val (by simp [retA, rvA, List.mapM_cons, List.mapM_nil, Option.pure_def, Option.bind_eq_bind, Option.bind_some, Option.map_some, mkE_cons, mk_nil, mkO_cons, mkO_nil, loadA, ↓reduceIte, List.take_succ_cons, List.take_zero, List.drop_zero, List.drop_succ_cons, List.length_cons, List.length_nil, Nat.reduceAdd, Nat.reduceEqDiff, Nat.reduceLeDiff, Nat.zero_add, Nat.le_refl, reduceCtorEq, SV.tr, SV.trL, nmF, rn_nil, rn_cons1, rn_cons2, List.map_cons, List.map_nil, List.all_cons, List.all_nil, plainOb, SV.refsL, SV.refs, Ob.refs, X, F, List.range_succ, List.range_zero, List.nil_append, List.cons_append, List.isEmpty_nil, decide_true, Nat.reduceLT, Bool.and_self, Bool.and_true, and_self, and_true, List.getElem?_cons_zero, List.getElem?_cons_succ, List.nodup_cons, List.nodup_nil, List.mem_cons, List.not_mem_nil, not_false_eq_true, or_false, List.append_nil, mkO, setO_mk, List.mem_singleton]) (by simp [SV.tr, SV.trL])
  | true =>
    obtain ⟨⟨l1, l3⟩, h8, _⟩ := okC_out h1
    have l1' : (1 : Int) ≤ c.length := by omega
    have l3' : (c.length : Int) ≤ 3 := by omega
    refine is.go hm hΓ k_s_OneWayPaths o_s_OneWayPaths (by simp [a_s_OneWayPaths]) ?_
    simp only [a_s_OneWayPaths, h_l4Counts, c_AreCounts, h_l10Needs, c_l10Needs, h_l10Paths, c_l10Paths, hc, h1, l1', l3', Int.toNat_natCast, isI_ints, ofI_ints, ints_len, List.zipIdx_cons, List.zipIdx_nil, ↓SP, SQ, Gam.add, stepM, callC, argC, lendO, nmBy, nmC, likeL, likeB, plainOb, offs, exL, X, F, trP, trO, stepD, stepW, newA, SV.tr, SV.trL, fz, allP, Ob.tr, loadA, cellsA, SV.cells, binA, binI, eqOut, isSl, isPt, natOf, callee, snap, SV.refsL, SV.refs, thaw, fzAll, loA, hiA, elemOf, partsA, buildA, putCells, ↓reduceIte, reduceCtorEq, okCell, Nat.reduceAdd, Nat.reduceEqDiff, Nat.reduceSub, Nat.reduceMul, Nat.reduceLeDiff, Nat.reduceLT, Nat.reduceBEq, PV.scal, PV.scalL, SV.scal, SV.scalL, Ob.scal, PV.isCell, pure', resO]
    exact finA_val (by simp [retA, rvA, List.mapM_cons, List.mapM_nil, Option.pure_def, Option.bind_eq_bind, Option.bind_some, Option.map_some, mkE_cons, mk_nil, mkO_cons, mkO_nil, loadA, ↓reduceIte, List.take_succ_cons, List.take_zero, List.drop_zero, List.drop_succ_cons, List.length_cons, List.length_nil, Nat.reduceAdd, Nat.reduceEqDiff, Nat.reduceLeDiff, Nat.zero_add, Nat.le_refl, reduceCtorEq, SV.tr, SV.trL, nmF, rn_nil, rn_cons1, rn_cons2, List.map_cons, List.map_nil, List.all_cons, List.all_nil, plainOb, SV.refsL, SV.refs, Ob.refs, X, F, List.range_succ, List.range_zero, List.nil_append, List.cons_append, List.isEmpty_nil, decide_true, Nat.reduceLT, Bool.and_self, Bool.and_true, and_self, and_true, List.getElem?_cons_zero, List.getElem?_cons_succ, List.nodup_cons, List.nodup_nil, List.mem_cons, List.not_mem_nil, not_false_eq_true, or_false, List.append_nil, mkO, setO_mk, List.mem_singleton]) (by simp [SV.tr, SV.trL])
def a_x_OneWayPaths (f_toIntS : FuncId) (f_s_OneWayPaths : FuncId) (f_OneWayPaths : FuncId) (f_eqIntS : FuncId) : AFn := ⟨1, 
  .seq (.reg [⟨some 2, none, .d (.mv (.c (.bool false)))⟩])
  (.seq (.seq (.reg [⟨some 10, none, .d (.mv (.t 0))⟩,
    ⟨some 11, none, .d (.len (.t 10))⟩,
    ⟨some 12, none, .d (.bin .arith .gtr (.t 11) (.c (.int .i64 1048576)))⟩])
  (.cond (.t 12) (.seq (.reg [⟨some 2, none, .d (.mv (.c (.bool true)))⟩])
   (.ret)) (.skip)))
  (.seq (.reg [⟨some 14, none, .d (.mv (.t 0))⟩,
    ⟨some 15, none, .d (.call (.f f_toIntS) [(.t 14)])⟩,
    ⟨some 16, none, .d (.call (.f f_s_OneWayPaths) [(.t 15)])⟩,
    ⟨some 13, none, .d (.mv (.t 16))⟩,
    ⟨some 17, none, .d (.extract (.t 13) 0)⟩,
    ⟨some 18, none, .d (.extract (.t 13) 1)⟩,
    ⟨some 19, none, .d (.extract (.t 13) 2)⟩,
    ⟨some 3, none, .d (.mv (.t 17))⟩,
    ⟨some 4, none, .d (.mv (.t 18))⟩,
    ⟨some 5, none, .d (.mv (.t 19))⟩])
  (.seq (.reg [⟨some 20, none, .d (.mv (.t 0))⟩,
    ⟨some 21, none, .d (.call (.f f_toIntS) [(.t 20)])⟩,
    ⟨some 6, none, .d (.mv (.t 21))⟩])
  (.seq (.reg [⟨some 23, none, .d (.mv (.t 6))⟩,
    ⟨some 24, none, .d (.call (.f f_OneWayPaths) [(.t 23)])⟩,
    ⟨some 22, none, .d (.mv (.t 24))⟩,
    ⟨some 25, none, .d (.extract (.t 22) 0)⟩,
    ⟨some 26, none, .d (.extract (.t 22) 1)⟩,
    ⟨some 27, none, .d (.extract (.t 22) 2)⟩,
    ⟨some 7, none, .d (.mv (.t 25))⟩,
    ⟨some 8, none, .d (.mv (.t 26))⟩,
    ⟨some 9, none, .d (.mv (.t 27))⟩])
  (.seq (.seq (.reg [⟨some 28, none, .d (.mv (.t 7))⟩,
    ⟨some 29, none, .d (.mv (.t 3))⟩,
    ⟨some 30, none, .d (.bin .arith .neq (.t 28) (.t 29))⟩,
    ⟨some 31, none, .d (.mv (.t 30))⟩,
    ⟨some 32, some (31, false), .d (.mv (.t 8))⟩,
    ⟨some 33, some (31, false), .d (.mv (.t 4))⟩,
    ⟨some 34, some (31, false), .d (.bin .arith .neq (.t 32) (.t 33))⟩,
    ⟨some 35, none, .d (.pick (.t 31) (.c (.bool true)) (.t 34))⟩,
    ⟨some 36, none, .d (.mv (.t 35))⟩,
    ⟨some 37, some (36, false), .d (.mv (.t 9))⟩,
    ⟨some 38, some (36, false), .d (.mv (.t 5))⟩,
    ⟨some 39, some (36, false), .d (.bin .bool .neq (.t 37) (.t 38))⟩,
    ⟨some 40, none, .d (.pick (.t 36) (.c (.bool true)) (.t 39))⟩])
  (.cond (.t 40) (.seq (.reg [⟨some 2, none, .d (.mv (.c (.bool false)))⟩])
   (.ret)) (.skip)))
  (.seq (.seq (.reg [⟨some 41, none, .d (.mv (.t 6))⟩,
    ⟨some 42, none, .d (.mv (.t 0))⟩,
    ⟨some 43, none, .d (.call (.f f_toIntS) [(.t 42)])⟩,
    ⟨some 44, none, .d (.call (.f f_eqIntS) [(.t 41), (.t 43)])⟩,
    ⟨some 45, none, .d (.not (.t 44))⟩])
  (.cond (.t 45) (.seq (.reg [⟨some 2, none, .d (.mv (.c (.bool false)))⟩])
   (.ret)) (.skip)))
  (.seq (.reg [⟨some 2, none, .d (.mv (.c (.bool true)))⟩])
  (.ret)))))))), [.tmp 2]⟩
def n_x_OneWayPaths : Nat → Option Ann := fun _ => none
abbrev k_x_OneWayPaths : List Nat := [0, 2, 3, 4, 5, 6, 7, 8, 9, 12, 40, 45]
abbrev o_x_OneWayPaths : List Nat := []
def c_x_OneWayPaths : Con := pure' fun
  | [.p v] => match slI v with
    | some c => if c.length ≤ 9223372036854775807 then some (.p (.bool true), []) else none
    | none => none
  | _ => none
set_option maxRecDepth 100000 in
theorem s_x_OneWayPaths {P : Program} (hm : P.follows .mixedOrders = true) {Γ : Gam} (hΓ : GS P Γ) {n : FuncId} {f_toIntS : FuncId} {f_s_OneWayPaths : FuncId} {f_OneWayPaths : FuncId} {f_eqIntS : FuncId} (is : Is P n (a_x_OneWayPaths f_toIntS f_s_OneWayPaths f_OneWayPaths f_eqIntS)) (h_toIntS : Γ f_toIntS = c_toIntS) (h_s_OneWayPaths : Γ f_s_OneWayPaths = c_OneWayPaths) (h_OneWayPaths : Γ f_OneWayPaths = c_OneWayPaths) (h_eqIntS : Γ f_eqIntS = c_eqIntS)  : Says P n c_x_OneWayPaths := by
  refine Says.pure fun args r fs h => ?_
  split at h
  case h_2 => cases h
  rename_i v
  split at h
  case h_2 => cases h
  rename_i c hv
  split at h
  case isFalse => cases h
  rename_i hc
  simp only [Option.some.injEq, Prod.mk.injEq] at h
  obtain ⟨rfl, rfl⟩ := h
  have hlv := slI_len hv
  by_cases hkv : (c.length : Int) > 1048576
  · refine is.go hm hΓ k_x_OneWayPaths o_x_OneWayPaths (by simp [a_x_OneWayPaths]) ?_
    simp only [a_x_OneWayPaths, h_toIntS, c_toIntS, h_s_OneWayPaths, c_OneWayPaths, h_OneWayPaths, c_OneWayPaths, h_eqIntS, c_eqIntS, hlv, hc, hkv, Int.reduceLE, Int.reduceNeg, Int.reduceLT, List.zipIdx_cons, List.zipIdx_nil, ↓SP, SQ, Gam.add, stepM, callC, argC, lendO, nmBy, nmC, likeL, likeB, plainOb, offs, exL, X, F, trP, trO, stepD, stepW, newA, SV.tr, SV.trL, fz, allP, Ob.tr, loadA, cellsA, SV.cells, binA, binI, eqOut, isSl, isPt, natOf, callee, snap, SV.refsL, SV.refs, thaw, fzAll, loA, hiA, elemOf, partsA, buildA, putCells, ↓reduceIte, reduceCtorEq, okCell, Nat.reduceAdd, Nat.reduceEqDiff, Nat.reduceSub, Nat.reduceMul, Nat.reduceLeDiff, Nat.reduceLT, Nat.reduceBEq, PV.scal, PV.scalL, SV.scal, SV.scalL, Ob.scal, PV.isCell, pure', resO]
    exact finA_val (by simp [retA, rvA, List.mapM_cons, List.mapM_nil, Option.pure_def, Option.bind_eq_bind, Option.bind_some, Option.map_some, mkE_cons, mk_nil, mkO_cons, mkO_nil, loadA, ↓reduceIte, List.take_succ_cons, List.take_zero, List.drop_zero, List.drop_succ_cons, List.length_cons, List.length_nil, Nat.reduceAdd, Nat.reduceEqDiff, Nat.reduceLeDiff, Nat.zero_add, Nat.le_refl, reduceCtorEq, SV.tr, SV.trL, nmF, rn_nil, rn_cons1, rn_cons2, List.map_cons, List.map_nil, List.all_cons, List.all_nil, plainOb, SV.refsL, SV.refs, Ob.refs, X, F, List.range_succ, List.range_zero, List.nil_append, List.cons_append, List.isEmpty_nil, decide_true, Nat.reduceLT, Bool.and_self, Bool.and_true, and_self, and_true, List.getElem?_cons_zero, List.getElem?_cons_succ, List.nodup_cons, List.nodup_nil, List.mem_cons, List.not_mem_nil, not_false_eq_true, or_false, List.append_nil, mkO, setO_mk, List.mem_singleton]) (by simp [SV.tr, SV.trL])
  · have q1 : c.length ≤ 1048576 := by omega
    have q2 : c.length ≤ 1100000 := by omega
    generalize hg1 : (if okC c = true then (pth c).1 else 0) = b1 at *
    generalize hg3 : (if okC c = true then (pth c).2 else 0) = b3 at *
    generalize hg2 : okC c = b2 at *
    refine is.go hm hΓ k_x_OneWayPaths o_x_OneWayPaths (by simp [a_x_OneWayPaths]) ?_
    simp only [a_x_OneWayPaths, h_toIntS, c_toIntS, h_s_OneWayPaths, c_OneWayPaths, h_OneWayPaths, c_OneWayPaths, h_eqIntS, c_eqIntS, hv, hlv, hc, hkv, q1, q2, hg1, hg2, hg3, slI_sl, beq_self_eq_true, Bool.not_true, Int.reduceLE, Int.reduceNeg, Int.reduceLT, bne_self_eq_false, List.zipIdx_cons, List.zipIdx_nil, ↓SP, SQ, Gam.add, stepM, callC, argC, lendO, nmBy, nmC, likeL, likeB, plainOb, offs, exL, X, F, trP, trO, stepD, stepW, newA, SV.tr, SV.trL, fz, allP, Ob.tr, loadA, cellsA, SV.cells, binA, binI, eqOut, isSl, isPt, natOf, callee, snap, SV.refsL, SV.refs, thaw, fzAll, loA, hiA, elemOf, partsA, buildA, putCells, ↓reduceIte, reduceCtorEq, okCell, Nat.reduceAdd, Nat.reduceEqDiff, Nat.reduceSub, Nat.reduceMul, Nat.reduceLeDiff, Nat.reduceLT, Nat.reduceBEq, PV.scal, PV.scalL, SV.scal, SV.scalL, Ob.scal, PV.isCell, pure', resO]
    exact finA_val (by simp [retA, rvA, List.mapM_cons, List.mapM_nil, Option.pure_def, Option.bind_eq_bind, Option.bind_some, Option.map_some, mkE_cons, mk_nil, mkO_cons, mkO_nil, loadA, ↓reduceIte, List.take_succ_cons, List.take_zero, List.drop_zero, List.drop_succ_cons, List.length_cons, List.length_nil, Nat.reduceAdd, Nat.reduceEqDiff, Nat.reduceLeDiff, Nat.zero_add, Nat.le_refl, reduceCtorEq, SV.tr, SV.trL, nmF, rn_nil, rn_cons1, rn_cons2, List.map_cons, List.map_nil, List.all_cons, List.all_nil, plainOb, SV.refsL, SV.refs, Ob.refs, X, F, List.range_succ, List.range_zero, List.nil_append, List.cons_append, List.isEmpty_nil, decide_true, Nat.reduceLT, Bool.and_self, Bool.and_true, and_self, and_true, List.getElem?_cons_zero, List.getElem?_cons_succ, List.nodup_cons, List.nodup_nil, List.mem_cons, List.not_mem_nil, not_false_eq_true, or_false, List.append_nil, mkO, setO_mk, List.mem_singleton]) (by simp [SV.tr, SV.trL])
end Go.Proofs.Ytihpfhdkjlphhaa.Pam
