/- A part of the proof that stands in this folder: a small machine whose steps are shown to be the steps of the model, or walks of functions by it. No condition of its own. -/
import Derived.Test.YtihpfhdkjlphhaaGfMQ
set_option linter.unusedVariables false
set_option linter.unusedSimpArgs false
namespace Go.Proofs.Ytihpfhdkjlphhaa.Pam
open Go
def beP (both : Bool) (c s : List Int) : Bool := decide (1 + mxI (ndI both (yb both c s)) (ndI both (noL c s)) = ndI both c)
def beS (both : Bool) (c : List Int) : List (List Int) := (splL c).filter (beP both c)
theorem yb_okC {both : Bool} {c s : List Int} (hc : okC c = true) (hu : told c = false) (hs : s ∈ splL c) : okC (yb both c s) = true ∧ okC (noL c s) = true := by
  obtain ⟨h1, h2⟩ := sp_okC hc hu hs
  refine ⟨?_, h2⟩
  cases both with
  | true => exact h1
  | false =>
    obtain ⟨⟨l1, l3⟩, h8, hsum⟩ := okC_out hc
    have hk := keyN_bd (p := c.length) rfl h8
    have hdg := dg_key (p := c.length) rfl l3 h8
    have hch := chk_of (okP_O l1 l3) hk.2 (by rw [hdg]; exact hsum) (by rw [hdg]; exact hu)
    rw [hdg] at hch
    have g2 := chk_inn hch hs
    have hsl := spl_len hs
    have hyb : yb false c s = s := rfl
    rw [hyb] at g2 ⊢
    have e1 := pad_sum (c := s) (by omega) (mem_allT.1 g2.1)
    simp only [okC, hsl, e1.1, dec_t e1.2, Bool.and_true]
    rw [dec_t (by omega), dec_t (by omega)]; rfl
theorem beL_nES {Γ2 : Gam} {g : FuncId} {both : Bool} (hr : isRule Γ2 g both) {c : List Int} (hc : okC c = true) (hu : told c = false) : beL Γ2 g (nES both) c = beS both c := by
  simp only [beL, beS]
  apply List.filter_congr
  intro s hs
  obtain ⟨h1, h2⟩ := yb_okC (both := both) hc hu hs
  simp only [beQ, beP, ruleY_is hr, ofE_nES both h1, ofE_nES both h2, ofE_nES both hc]
theorem zsplit {c : List Int} (h8 : in8 c = true) : ∃ s, s ∈ splL c ∧ noL c s = c := by
  refine ⟨List.replicate c.length 0, mem_spl (okSp_all (by simp) fun j hj => ?_), ?_⟩
  · have := in8_get h8 j
    have e : (List.replicate c.length (0 : Int)).getD j 0 = 0 := by
      rw [List.getD_eq_getElem?_getD, List.getElem?_replicate]; split <;> rfl
    rw [e, dec_t (Int.le_refl 0), dec_t this.1]; rfl
  · apply List.ext_getElem
    · rw [noL_len]; simp
    · intro j h1 h2
      have e0 : ∀ i, (List.replicate c.length (0 : Int)).getD i 0 = 0 := fun i => by
        rw [List.getD_eq_getElem?_getD, List.getElem?_replicate]; split <;> rfl
      have hr : ∀ i, i < c.length → (restL c (List.replicate c.length 0)).getD i 0 = c.getD i 0 := fun i hi => by
        rw [restL_get (by simpa using hi), e0]; omega
      have : (noL c (List.replicate c.length 0)).getD j 0 = c.getD j 0 := by
        have hl : (restL c (List.replicate c.length 0)).length = c.length := by rw [restL_len]; simp
        simp only [noL, movL]
        rw [getD_lt (by simp [hl]; exact h2)]
        simp only [List.getElem_map, List.getElem_range, movF]
        by_cases hj : j = 0
        · subst hj; rw [if_pos rfl, hr 0 h2]
        · rw [if_neg hj, hr j h2, e0]; omega
      rw [getD_lt h1, getD_lt h2] at this
      exact this
theorem be_any {Γ2 : Gam} {g : FuncId} {both : Bool} (hr : isRule Γ2 g both) {c : List Int} (hc : okC c = true) (hu : told c = false) : ((splL c).any fun s => !beQ Γ2 g (nES both) c s) = true := by
  obtain ⟨_, h8, _⟩ := okC_out hc
  obtain ⟨s, hs, hn⟩ := zsplit h8
  obtain ⟨h1, h2⟩ := yb_okC (both := both) hc hu hs
  rw [List.any_eq_true]
  refine ⟨s, hs, ?_⟩
  simp only [beQ, ruleY_is hr, ofE_nES both h1, ofE_nES both h2, ofE_nES both hc, hn]
  have : ¬ 1 + mxI (ndI both (yb both c s)) (ndI both c) = ndI both c := by
    simp only [mxI]; split <;> omega
  rw [dec_f this]; rfl
/-- Best splits of the reference. -/
def beR (c s : List Int) : Bool := decide ((if backB c s = true then -1 else snV c s) = ndI true c)
theorem nd_pos {both : Bool} {c : List Int} (hc : okC c = true) (hu : told c = false) : 1 ≤ ndI both c := by
  have hp := okC_pad hc
  obtain ⟨⟨l1, l3⟩, h8, hsum⟩ := okC_out hc
  have hk := keyN_bd (p := c.length) rfl h8
  have hdg := dg_key (p := c.length) rfl l3 h8
  have hz : ntR both (pad3 c) ≠ 0 := by
    intro h0
    cases both with
    | true =>
      have := (zero_told (okP_B l1 l3) hk.2 (by rw [hdg]; exact hsum)).1 (by rw [hdg]; exact h0)
      rw [hdg, hu] at this; cases this
    | false =>
      have := (zero_told (okP_O l1 l3) hk.2 (by rw [hdg]; exact hsum)).1 (by rw [hdg]; exact h0)
      rw [hdg, hu] at this; cases this
  simp only [ndI]; omega
theorem beR_eq {c s : List Int} (hc : okC c = true) (hu : told c = false) (hs : s ∈ splL c) : beR c s = beP true c s := by
  have hyb : yb true c s = yesL c s := rfl
  have hp := nd_pos (both := true) hc hu
  simp only [beR, beP, hyb]
  cases hb : backB c s with
  | false => simp only [Bool.false_eq_true, if_false]; rfl
  | true =>
    simp only [if_true]
    rw [dec_f (by omega)]
    symm
    apply dec_f
    simp only [backB, Bool.or_eq_true, decide_eq_true_eq] at hb
    rcases hb with h | h
    · rw [h]; simp only [mxI]; split <;> omega
    · rw [h]; simp only [mxI]; split <;> omega
theorem beR_filter {c : List Int} (hc : okC c = true) (hu : told c = false) : (splL c).filter (beR c) = beS true c := by
  simp only [beS]
  exact List.filter_congr fun s hs => beR_eq hc hu hs
def a_l4Best (f_l4Needs : FuncId) (f_l4Splits : FuncId) (f_l4SplitNeed : FuncId) (f_l4Key : FuncId) : AFn := ⟨1, 
  .seq (.reg [⟨some 2, none, .d (.mv (.c (.nilsl)))⟩])
  (.seq (.reg [⟨some 7, none, .w (.bslice 1 [] [])⟩,
    ⟨some 8, none, .d (.mv (.t 0))⟩,
    ⟨some 9, none, .d (.len (.t 8))⟩,
    ⟨some 10, none, .d (.call (.f f_l4Needs) [(.t 9)])⟩,
    ⟨some 11, none, .d (.mv (.t 0))⟩,
    ⟨some 12, none, .d (.call (.f f_l4Splits) [(.t 11)])⟩,
    ⟨some 3, none, .d (.mv (.t 7))⟩,
    ⟨some 4, none, .d (.mv (.t 10))⟩,
    ⟨some 5, none, .d (.mv (.t 12))⟩])
  (.seq (.seq (.reg [⟨some 6, none, .d (.mv (.c (.int .i64 0)))⟩])
  (.block 0 (.loop (.seq (.seq (.reg [⟨some 13, none, .d (.mv (.t 6))⟩,
      ⟨some 14, none, .d (.mv (.t 5))⟩,
      ⟨some 15, none, .d (.len (.t 14))⟩,
      ⟨some 16, none, .d (.bin .arith .lss (.t 13) (.t 15))⟩])
    (.cond (.t 16) (.skip) (.exit 0)))
    (.seq (.block 1 (.seq (.reg [⟨some 19, none, .d (.mv (.t 0))⟩,
       ⟨some 20, none, .d (.mv (.t 5))⟩,
       ⟨some 21, none, .d (.mv (.t 6))⟩,
       ⟨some 22, none, .d (.ia 1 (.t 20) (.t 21))⟩,
       ⟨some 23, none, .d (.load false 1 (.t 22))⟩,
       ⟨some 24, none, .d (.mv (.t 4))⟩,
       ⟨some 25, none, .d (.call (.f f_l4SplitNeed) [(.t 19), (.t 23), (.t 24)])⟩,
       ⟨some 26, none, .d (.mv (.t 4))⟩,
       ⟨some 27, none, .d (.mv (.t 0))⟩,
       ⟨some 28, none, .d (.call (.f f_l4Key) [(.t 27)])⟩,
       ⟨some 29, none, .d (.ia 1 (.t 26) (.t 28))⟩,
       ⟨some 30, none, .d (.load false 1 (.t 29))⟩,
       ⟨some 31, none, .d (.bin .arith .eql (.t 25) (.t 30))⟩])
     (.cond (.t 31) (.reg [⟨some 32, none, .d (.mv (.t 3))⟩,
        ⟨some 33, none, .d (.mv (.t 5))⟩,
        ⟨some 34, none, .d (.mv (.t 6))⟩,
        ⟨some 35, none, .d (.ia 1 (.t 33) (.t 34))⟩,
        ⟨some 36, none, .d (.load false 1 (.t 35))⟩,
        ⟨some 37, none, .w (.bslice 1 [.nilsl] [(0, (.t 36))])⟩,
        ⟨some 38, none, .w (.append 1 (.t 32) (.t 37))⟩,
        ⟨some 3, none, .d (.mv (.t 38))⟩]) (.skip))))
    (.reg [⟨some 17, none, .d (.mv (.t 6))⟩,
      ⟨some 18, none, .d (.bin .arith .add (.t 17) (.c (.int .i64 1)))⟩,
      ⟨some 6, none, .d (.mv (.t 18))⟩]))))))
  (.seq (.reg [⟨some 39, none, .d (.mv (.t 3))⟩,
    ⟨some 2, none, .d (.mv (.t 39))⟩])
  (.ret)))), [.tmp 2]⟩
def n_l4Best : Nat → Option Ann := fun _ => none
abbrev k_l4Best : List Nat := [0, 2, 3, 4, 5, 6, 16, 31]
abbrev o_l4Best : List Nat := [7, 37, 38]
def c_l4Best : Con := pure' fun
  | [.p (.sl 1 c_)] => if isI c_ = true ∧ (okC (ofI c_) = true ∧ told (ofI c_) = false) then some (.ar 2000000, [.arr 1 (sls (beS true (ofI c_)))]) else none
  | _ => none
theorem s_l4Best {P : Program} (hm : P.follows .mixedOrders = true) {Γ : Gam} (hΓ : GS P Γ) {n : FuncId} {f_l4Needs : FuncId} {f_l4Splits : FuncId} {f_l4SplitNeed : FuncId} {f_l4Key : FuncId} (is : Is P n (a_l4Best f_l4Needs f_l4Splits f_l4SplitNeed f_l4Key)) (h_l4Needs : Γ f_l4Needs = c_l4Needs) (h_l4Splits : Γ f_l4Splits = c_splits) (h_l4SplitNeed : Γ f_l4SplitNeed = c_l4SplitNeed) (h_l4Key : Γ f_l4Key = c_l4Key)  : Says P n c_l4Best := by
  refine Says.pure fun args r fs h => ?_
  split at h
  case h_2 => cases h
  rename_i c_
  split at h
  case isFalse => cases h
  rename_i hc
  obtain ⟨hc_, hc⟩ := hc
  obtain ⟨c, rfl⟩ := isI_out hc_
  simp only [ofI_ints, ofBo_bools, ofAs_asks, Option.some.injEq, Prod.mk.injEq] at h hc
  obtain ⟨rfl, rfl⟩ := h
  obtain ⟨hok, hu⟩ := hc
  obtain ⟨⟨l1, l3⟩, h8, _⟩ := okC_out hok
  have hokw := okw_of hok hu
  have l1' : (1 : Int) ≤ c.length := by omega
  have l3' : (c.length : Int) ≤ 3 := by omega
  have htl := tabK_len (ntT tabB) c.length 9
  have hbt := tabK_bd (nt := ntT tabB) (p := c.length) (k := 9) (by omega)
  have hsl := spI_len3 h8 l3
  have hsl2 : (splL c).length ≤ 729 := hsl
  obtain ⟨k0, k1⟩ := keyN_bd (p := c.length) rfl h8
  have hkk : (keyL c).toNat = keyN c := rfl
  have hgt := ints_get (l := tabK (ntT tabB) c.length 9) (i := keyN c) (by rw [tabK_len]; exact k1)
  rw [(tab_nd hok).1] at hgt
  rw [← beR_filter hok hu]
  refine is.go hm hΓ k_l4Best o_l4Best (by simp [a_l4Best]) ?_
  simp only [a_l4Best, h_l4Needs, c_l4Needs, h_l4Splits, c_splits, h_l4SplitNeed, c_l4SplitNeed, h_l4Key, c_l4Key, l1', l3', l3, h8, Int.toNat_natCast, List.zipIdx_cons, List.zipIdx_nil, ↓SP, SQ, Gam.add, stepM, callC, argC, lendO, nmBy, nmC, likeL, likeB, plainOb, offs, exL, X, F, trP, trO, stepD, stepW, newA, SV.tr, SV.trL, fz, allP, Ob.tr, loadA, cellsA, SV.cells, binA, binI, eqOut, isSl, isPt, natOf, callee, snap, SV.refsL, SV.refs, thaw, fzAll, loA, hiA, elemOf, partsA, buildA, putCells, ↓reduceIte, reduceCtorEq, okCell, Nat.reduceAdd, Nat.reduceEqDiff, Nat.reduceSub, Nat.reduceMul, Nat.reduceLeDiff, Nat.reduceLT, Nat.reduceBEq, PV.scal, PV.scalL, SV.scal, SV.scalL, Ob.scal, PV.isCell, pure', resO]
  refine loop_at (fun st : J => mkEnv [(0, .p (.sl 1 (ints c))), (2, .p .nilsl), (3, .ar 7), (4, .p (.sl 1 (ints (tabK (ntT tabB) c.length 9)))), (5, .p (.sl 1 (sls (splL c)))), (6, si st.i), (16, st.a), (31, st.b)]) (fun st => mkO [(7, some (.arr 1 (sls (((splL c).take st.i).filter (beR c))))), (37, st.o), (38, none)]) (fun st => st.i ≤ (splL c).length) (fun st => (splL c).length - st.i) ⟨0, .junk, .junk, .junk, .junk, .junk, .junk, .junk, .junk, .junk, .junk, .junk, .junk, none, none, none⟩ (by simp) rfl rfl ?_
  rintro ⟨i, c1, c2, c3, c4, c5, c6, c7, c8, c9, c10, c11, c12, o1, o2, o3⟩ hi R hR hN
  simp only at hi
  by_cases h : i < (splL c).length
  · have h1 : (i : Int) < (splL c).length := by omega
    have hw := wrap_one (i := i) (by omega)
    have hg := sls_get h
    obtain ⟨s, hs⟩ : ∃ s, (splL c).getD i [] = s := ⟨_, rfl⟩
    have hsm : s ∈ splL c := by rw [← hs, getD_lt h]; exact List.getElem_mem h
    rw [hs] at hg
    obtain ⟨ty, tn⟩ := tab_yn hok hu hsm
    have hsv : 1 + mxI (ndI true (yesL c s)) (ndI true (noL c s)) = snV c s := rfl
    have hq0 := take_one (splL c) i [] h
    rw [hs] at hq0
    have hfl : (((splL c).take i).filter (beR c)).length + 1 ≤ roomA := by
      have := List.length_filter_le (beR c) ((splL c).take i)
      rw [List.length_take] at this
      unfold roomA; omega
    cases hb : beR c s with
    | true =>
      have hb2 : ((if backB c s = true then -1 else snV c s) == ndI true c) = true := by
        simp only [beR, decide_eq_true_eq] at hb; rw [hb]; exact beq_self_eq_true _
      have hapx : ((splL c).take i).filter (beR c) ++ [s] = ((splL c).take (i + 1)).filter (beR c) := by
        rw [hq0, List.filter_append]; simp only [List.filter_cons, hb, List.filter_nil, if_true]
      simp only [h1, hw, hg, hokw, hsm, htl, hbt, ty, tn, hsv, hb2, k0, hkk, hgt, hapx, hfl, l3, h8, sls_len, sls_app1, sls_cell, h_l4SplitNeed, c_l4SplitNeed, h_l4Key, c_l4Key, isI_ints, ofI_ints, ints_len, ↓SP, SQ, Gam.add, stepM, callC, argC, lendO, nmBy, nmC, likeL, likeB, plainOb, offs, exL, X, F, trP, trO, stepD, stepW, newA, SV.tr, SV.trL, fz, allP, Ob.tr, loadA, cellsA, SV.cells, binA, binI, eqOut, isSl, isPt, natOf, callee, snap, SV.refsL, SV.refs, thaw, fzAll, loA, hiA, elemOf, partsA, buildA, putCells, ↓reduceIte, reduceCtorEq, okCell, Nat.reduceAdd, Nat.reduceEqDiff, Nat.reduceSub, Nat.reduceMul, Nat.reduceLeDiff, Nat.reduceLT, Nat.reduceBEq, PV.scal, PV.scalL, SV.scal, SV.scalL, Ob.scal, PV.isCell, pure', resO]
      exact hN ⟨i + 1, _, _, .junk, .junk, .junk, .junk, .junk, .junk, .junk, .junk, .junk, .junk, _, none, none⟩ _ _ (by simp only; omega) (by simp only; omega) rfl rfl
    | false =>
      have hb2 : ((if backB c s = true then -1 else snV c s) == ndI true c) = false := by
        simp only [beR, decide_eq_false_iff_not] at hb; exact beq_eq_false_iff_ne.2 hb
      have hapx : ((splL c).take (i + 1)).filter (beR c) = ((splL c).take i).filter (beR c) := by
        rw [hq0, List.filter_append]; simp only [List.filter_cons, hb, List.filter_nil, Bool.false_eq_true, if_false, List.append_nil]
      simp only [h1, hw, hg, hokw, hsm, htl, hbt, ty, tn, hsv, hb2, k0, hkk, hgt, l3, h8, sls_len, h_l4SplitNeed, c_l4SplitNeed, h_l4Key, c_l4Key, isI_ints, ofI_ints, ints_len, ↓SP, SQ, Gam.add, stepM, callC, argC, lendO, nmBy, nmC, likeL, likeB, plainOb, offs, exL, X, F, trP, trO, stepD, stepW, newA, SV.tr, SV.trL, fz, allP, Ob.tr, loadA, cellsA, SV.cells, binA, binI, eqOut, isSl, isPt, natOf, callee, snap, SV.refsL, SV.refs, thaw, fzAll, loA, hiA, elemOf, partsA, buildA, putCells, ↓reduceIte, reduceCtorEq, okCell, Nat.reduceAdd, Nat.reduceEqDiff, Nat.reduceSub, Nat.reduceMul, Nat.reduceLeDiff, Nat.reduceLT, Nat.reduceBEq, PV.scal, PV.scalL, SV.scal, SV.scalL, Ob.scal, PV.isCell, pure', resO]
      exact hN ⟨i + 1, _, _, .junk, .junk, .junk, .junk, .junk, .junk, .junk, .junk, .junk, .junk, _, none, none⟩ _ _ (by simp only; omega) (by simp only; omega) rfl (by rw [hapx])
  · have he : i = (splL c).length := by omega
    have h1 : ¬ (i : Int) < (splL c).length := by omega
    subst he
    have hfe : ((splL c).take (splL c).length).filter (beR c) = (splL c).filter (beR c) := by rw [List.take_length]
    simp only [h1, sls_len, ↓SP, SQ, Gam.add, stepM, callC, argC, lendO, nmBy, nmC, likeL, likeB, plainOb, offs, exL, X, F, trP, trO, stepD, stepW, newA, SV.tr, SV.trL, fz, allP, Ob.tr, loadA, cellsA, SV.cells, binA, binI, eqOut, isSl, isPt, natOf, callee, snap, SV.refsL, SV.refs, thaw, fzAll, loA, hiA, elemOf, partsA, buildA, putCells, ↓reduceIte, reduceCtorEq, okCell, Nat.reduceAdd, Nat.reduceEqDiff, Nat.reduceSub, Nat.reduceMul, Nat.reduceLeDiff, Nat.reduceLT, Nat.reduceBEq, PV.scal, PV.scalL, SV.scal, SV.scalL, Ob.scal, PV.isCell, pure', resO]
    refine hR _ _ _ (by intro h; cases h) ?_
    simp only [hfe, ↓SP, SQ, Gam.add, stepM, callC, argC, lendO, nmBy, nmC, likeL, likeB, plainOb, offs, exL, X, F, trP, trO, stepD, stepW, newA, SV.tr, SV.trL, fz, allP, Ob.tr, loadA, cellsA, SV.cells, binA, binI, eqOut, isSl, isPt, natOf, callee, snap, SV.refsL, SV.refs, thaw, fzAll, loA, hiA, elemOf, partsA, buildA, putCells, ↓reduceIte, reduceCtorEq, okCell, Nat.reduceAdd, Nat.reduceEqDiff, Nat.reduceSub, Nat.reduceMul, Nat.reduceLeDiff, Nat.reduceLT, Nat.reduceBEq, PV.scal, PV.scalL, SV.scal, SV.scalL, Ob.scal, PV.isCell, pure', resO]
    refine finA_gen [7] trivial (by simp [retA, rvA, mkE_cons, mk_nil, mkO_cons, mkO_nil, loadA, SV.tr, SV.trL, nmF, rn_nil, rn_cons1, rn_cons2, plainOb, SV.refsL, SV.refs, Ob.refs, X, F, List.range_succ, mkO, setO_mk]; rfl) ?_ ?_ ?_ ?_ ?_ ?_ ?_ <;> simp [retA, rvA, mkE_cons, mk_nil, mkO_cons, mkO_nil, loadA, SV.tr, SV.trL, nmF, rn_nil, rn_cons1, rn_cons2, plainOb, SV.refsL, SV.refs, Ob.refs, X, F, List.range_succ, mkO, setO_mk]
def a_CountBestSplits (f_isUntold : FuncId) (f_neederOf : FuncId) (f_bothWays : FuncId) (f_nBest : FuncId) : AFn := ⟨1, 
  .seq (.reg [⟨some 2, none, .d (.mv (.c (.int .i64 0)))⟩,
    ⟨some 3, none, .d (.mv (.c (.bool false)))⟩])
  (.seq (.seq (.reg [⟨some 4, none, .d (.mv (.t 0))⟩,
    ⟨some 5, none, .d (.call (.f f_isUntold) [(.t 4)])⟩,
    ⟨some 6, none, .d (.not (.t 5))⟩])
  (.cond (.t 6) (.seq (.reg [⟨some 2, none, .d (.mv (.c (.int .i64 0)))⟩,
     ⟨some 3, none, .d (.mv (.c (.bool false)))⟩])
   (.ret)) (.skip)))
  (.seq (.reg [⟨some 7, none, .d (.call (.f f_neederOf) [(.f f_bothWays)])⟩,
    ⟨some 8, none, .d (.mv (.t 0))⟩,
    ⟨some 9, none, .d (.call (.f f_nBest) [(.t 7), (.t 8)])⟩,
    ⟨some 10, none, .d (.len (.t 9))⟩,
    ⟨some 2, none, .d (.mv (.t 10))⟩,
    ⟨some 3, none, .d (.mv (.c (.bool true)))⟩])
  (.ret))), [.tmp 2, .tmp 3]⟩
def n_CountBestSplits : Nat → Option Ann := fun _ => none
abbrev k_CountBestSplits : List Nat := [0, 2, 3, 6]
abbrev o_CountBestSplits : List Nat := []
def a_s_CountBestSplits (f_l4Counts : FuncId) (f_l4Told : FuncId) (f_l4Best : FuncId) : AFn := ⟨1, 
  .seq (.reg [⟨some 2, none, .d (.mv (.c (.int .i64 0)))⟩,
    ⟨some 3, none, .d (.mv (.c (.bool false)))⟩])
  (.seq (.seq (.reg [⟨some 4, none, .d (.mv (.t 0))⟩,
    ⟨some 5, none, .d (.call (.f f_l4Counts) [(.t 4)])⟩,
    ⟨some 6, none, .d (.not (.t 5))⟩,
    ⟨some 7, none, .d (.mv (.t 6))⟩,
    ⟨some 8, some (7, false), .d (.mv (.t 0))⟩,
    ⟨some 9, some (7, false), .d (.call (.f f_l4Told) [(.t 8)])⟩,
    ⟨some 10, none, .d (.pick (.t 7) (.c (.bool true)) (.t 9))⟩])
  (.cond (.t 10) (.seq (.reg [⟨some 2, none, .d (.mv (.c (.int .i64 0)))⟩,
     ⟨some 3, none, .d (.mv (.c (.bool false)))⟩])
   (.ret)) (.skip)))
  (.seq (.reg [⟨some 11, none, .d (.mv (.t 0))⟩,
    ⟨some 12, none, .d (.call (.f f_l4Best) [(.t 11)])⟩,
    ⟨some 13, none, .d (.len (.t 12))⟩,
    ⟨some 2, none, .d (.mv (.t 13))⟩,
    ⟨some 3, none, .d (.mv (.c (.bool true)))⟩])
  (.ret))), [.tmp 2, .tmp 3]⟩
def n_s_CountBestSplits : Nat → Option Ann := fun _ => none
abbrev k_s_CountBestSplits : List Nat := [0, 2, 3, 10]
abbrev o_s_CountBestSplits : List Nat := []
def c_CountBestSplits : Con := pure' fun
  | [.p (.sl 1 c_)] => if isI c_ = true ∧ ((ofI c_).length ≤ 1100000) then some (.tp [.p (.int .i64 (if (okC (ofI c_) && !told (ofI c_)) = true then ((beS true (ofI c_)).length : Int) else 0)), .p (.bool (okC (ofI c_) && !told (ofI c_)))], []) else none
  | _ => none
theorem s_CountBestSplits {P : Program} (hm : P.follows .mixedOrders = true) {Γ : Gam} (hΓ : GS P Γ) {n : FuncId} {f_isUntold : FuncId} {f_neederOf : FuncId} {f_bothWays : FuncId} {f_nBest : FuncId} (is : Is P n (a_CountBestSplits f_isUntold f_neederOf f_bothWays f_nBest)) (h_isUntold : Γ f_isUntold = c_isUntold) {Γ1 Γ2 : Gam} (h_neederOf : Γ f_neederOf = c_neederOf Γ1) (h_bothWays : Γ1 f_bothWays = c_bothWays) (h_nBest : Γ f_nBest = c_nBest Γ2) (h_bothWays2 : Γ2 f_bothWays = c_bothWays) : Says P n c_CountBestSplits := by
  refine Says.pure fun args r fs h => ?_
  split at h
  case h_2 => cases h
  rename_i c_
  split at h
  case isFalse => cases h
  rename_i hc
  obtain ⟨hc_, hc⟩ := hc
  obtain ⟨c, rfl⟩ := isI_out hc_
  simp only [ofI_ints, ofBo_bools, ofAs_asks, Option.some.injEq, Prod.mk.injEq] at h hc
  obtain ⟨rfl, rfl⟩ := h
  cases h1 : (okC c && !told c) with
  | false =>
    refine is.go hm hΓ k_CountBestSplits o_CountBestSplits (by simp [a_CountBestSplits]) ?_
    simp only [a_CountBestSplits, h_isUntold, c_isUntold, hc, h1, Bool.false_eq_true, List.zipIdx_cons, List.zipIdx_nil, ↓SP, SQ, Gam.add, stepM, callC, argC, lendO, nmBy, nmC, likeL, likeB, plainOb, offs, exL, X, F, trP, trO, stepD, stepW, newA, SV.tr, SV.trL, fz, allP, Ob.tr, loadA, cellsA, SV.cells, binA, binI, eqOut, isSl, isPt, natOf, callee, snap, SV.refsL, SV.refs, thaw, fzAll, loA, hiA, elemOf, partsA, buildA, putCells, ↓reduceIte, reduceCtorEq, okCell, Nat.reduceAdd, Nat.reduceEqDiff, Nat.reduceSub, Nat.reduceMul, Nat.reduceLeDiff, Nat.reduceLT, Nat.reduceBEq, PV.scal, PV.scalL, SV.scal, SV.scalL, Ob.scal, PV.isCell, pure', resO]
    exact finA_val (by simp [retA, rvA, mkE_cons, mk_nil, mkO_cons, mkO_nil, loadA, SV.tr, SV.trL, nmF, rn_nil, rn_cons1, rn_cons2, plainOb, SV.refsL, SV.refs, Ob.refs, X, F, List.range_succ, mkO, setO_mk]) (by simp [SV.tr, SV.trL])
  | true =>
    have hok : okC c = true := by simp only [Bool.and_eq_true] at h1; exact h1.1
    have hu : told c = false := by simp only [Bool.and_eq_true, Bool.not_eq_true'] at h1; exact h1.2
    have hne := neederOf_both h_bothWays
    have hE := okE_nES true
    have hr : isRule Γ2 f_bothWays true := by simpa [isRule] using h_bothWays2
    have hbl := beL_nES hr hok hu
    have hba := be_any hr hok hu
    have htk := sls_app_take (beS true c) (List.replicate ((splL c).length - (beS true c).length) .nilsl)
    refine is.go hm hΓ k_CountBestSplits o_CountBestSplits (by simp [a_CountBestSplits]) ?_
    simp only [a_CountBestSplits, h_isUntold, c_isUntold, hc, h1, hok, hu, h_neederOf, hne, h_nBest, c_nBest, h_bothWays2, true_or, hE, hok, hbl, hba, htk, sls_len, Nat.sub_zero, List.drop_zero, isI_ints, ofI_ints, ints_len, Bool.not_false, Bool.not_true, Bool.false_eq_true, List.zipIdx_cons, List.zipIdx_nil, ↓SP, SQ, Gam.add, stepM, callC, argC, lendO, nmBy, nmC, likeL, likeB, plainOb, offs, exL, X, F, trP, trO, stepD, stepW, newA, SV.tr, SV.trL, fz, allP, Ob.tr, loadA, cellsA, SV.cells, binA, binI, eqOut, isSl, isPt, natOf, callee, snap, SV.refsL, SV.refs, thaw, fzAll, loA, hiA, elemOf, partsA, buildA, putCells, ↓reduceIte, reduceCtorEq, okCell, Nat.reduceAdd, Nat.reduceEqDiff, Nat.reduceSub, Nat.reduceMul, Nat.reduceLeDiff, Nat.reduceLT, Nat.reduceBEq, PV.scal, PV.scalL, SV.scal, SV.scalL, Ob.scal, PV.isCell, pure', resO]
    exact finA_val (by simp [retA, rvA, mkE_cons, mk_nil, mkO_cons, mkO_nil, loadA, SV.tr, SV.trL, nmF, rn_nil, rn_cons1, rn_cons2, plainOb, SV.refsL, SV.refs, Ob.refs, X, F, List.range_succ, mkO, setO_mk]) (by simp [SV.tr, SV.trL])
theorem s_s_CountBestSplits {P : Program} (hm : P.follows .mixedOrders = true) {Γ : Gam} (hΓ : GS P Γ) {n : FuncId} {f_l4Counts : FuncId} {f_l4Told : FuncId} {f_l4Best : FuncId} (is : Is P n (a_s_CountBestSplits f_l4Counts f_l4Told f_l4Best)) (h_l4Counts : Γ f_l4Counts = c_AreCounts) (h_l4Told : Γ f_l4Told = c_isTold) (h_l4Best : Γ f_l4Best = c_l4Best)  : Says P n c_CountBestSplits := by
  refine Says.pure fun args r fs h => ?_
  split at h
  case h_2 => cases h
  rename_i c_
  split at h
  case isFalse => cases h
  rename_i hc
  obtain ⟨hc_, hc⟩ := hc
  obtain ⟨c, rfl⟩ := isI_out hc_
  simp only [ofI_ints, ofBo_bools, ofAs_asks, Option.some.injEq, Prod.mk.injEq] at h hc
  obtain ⟨rfl, rfl⟩ := h
  cases h1 : okC c with
  | false =>
    refine is.go hm hΓ k_s_CountBestSplits o_s_CountBestSplits (by simp [a_s_CountBestSplits]) ?_
    simp only [a_s_CountBestSplits, h_l4Counts, c_AreCounts, h_l4Told, c_isTold, h_l4Best, c_l4Best, hc, h1, Bool.false_and, Bool.false_eq_true, List.zipIdx_cons, List.zipIdx_nil, ↓SP, SQ, Gam.add, stepM, callC, argC, lendO, nmBy, nmC, likeL, likeB, plainOb, offs, exL, X, F, trP, trO, stepD, stepW, newA, SV.tr, SV.trL, fz, allP, Ob.tr, loadA, cellsA, SV.cells, binA, binI, eqOut, isSl, isPt, natOf, callee, snap, SV.refsL, SV.refs, thaw, fzAll, loA, hiA, elemOf, partsA, buildA, putCells, ↓reduceIte, reduceCtorEq, okCell, Nat.reduceAdd, Nat.reduceEqDiff, Nat.reduceSub, Nat.reduceMul, Nat.reduceLeDiff, Nat.reduceLT, Nat.reduceBEq, PV.scal, PV.scalL, SV.scal, SV.scalL, Ob.scal, PV.isCell, pure', resO]
    exact finA_val (by simp [retA, rvA, mkE_cons, mk_nil, mkO_cons, mkO_nil, loadA, SV.tr, SV.trL, nmF, rn_nil, rn_cons1, rn_cons2, plainOb, SV.refsL, SV.refs, Ob.refs, X, F, List.range_succ, mkO, setO_mk]) (by simp [SV.tr, SV.trL])
  | true =>
    obtain ⟨⟨l1, l3⟩, h8, _⟩ := okC_out h1
    cases h2 : told c with
    | true =>
      refine is.go hm hΓ k_s_CountBestSplits o_s_CountBestSplits (by simp [a_s_CountBestSplits]) ?_
      simp only [a_s_CountBestSplits, h_l4Counts, c_AreCounts, h_l4Told, c_isTold, h_l4Best, c_l4Best, hc, h1, h2, l3, h8, Bool.not_true, Bool.and_false, Bool.false_eq_true, List.zipIdx_cons, List.zipIdx_nil, ↓SP, SQ, Gam.add, stepM, callC, argC, lendO, nmBy, nmC, likeL, likeB, plainOb, offs, exL, X, F, trP, trO, stepD, stepW, newA, SV.tr, SV.trL, fz, allP, Ob.tr, loadA, cellsA, SV.cells, binA, binI, eqOut, isSl, isPt, natOf, callee, snap, SV.refsL, SV.refs, thaw, fzAll, loA, hiA, elemOf, partsA, buildA, putCells, ↓reduceIte, reduceCtorEq, okCell, Nat.reduceAdd, Nat.reduceEqDiff, Nat.reduceSub, Nat.reduceMul, Nat.reduceLeDiff, Nat.reduceLT, Nat.reduceBEq, PV.scal, PV.scalL, SV.scal, SV.scalL, Ob.scal, PV.isCell, pure', resO]
      exact finA_val (by simp [retA, rvA, mkE_cons, mk_nil, mkO_cons, mkO_nil, loadA, SV.tr, SV.trL, nmF, rn_nil, rn_cons1, rn_cons2, plainOb, SV.refsL, SV.refs, Ob.refs, X, F, List.range_succ, mkO, setO_mk]) (by simp [SV.tr, SV.trL])
    | false =>
      refine is.go hm hΓ k_s_CountBestSplits o_s_CountBestSplits (by simp [a_s_CountBestSplits]) ?_
      simp only [a_s_CountBestSplits, h_l4Counts, c_AreCounts, h_l4Told, c_isTold, h_l4Best, c_l4Best, hc, h1, h2, l3, h8, sls_len, Bool.not_false, Bool.and_self, List.zipIdx_cons, List.zipIdx_nil, ↓SP, SQ, Gam.add, stepM, callC, argC, lendO, nmBy, nmC, likeL, likeB, plainOb, offs, exL, X, F, trP, trO, stepD, stepW, newA, SV.tr, SV.trL, fz, allP, Ob.tr, loadA, cellsA, SV.cells, binA, binI, eqOut, isSl, isPt, natOf, callee, snap, SV.refsL, SV.refs, thaw, fzAll, loA, hiA, elemOf, partsA, buildA, putCells, ↓reduceIte, reduceCtorEq, okCell, Nat.reduceAdd, Nat.reduceEqDiff, Nat.reduceSub, Nat.reduceMul, Nat.reduceLeDiff, Nat.reduceLT, Nat.reduceBEq, PV.scal, PV.scalL, SV.scal, SV.scalL, Ob.scal, PV.isCell, pure', resO]
      exact finA_val (by simp [retA, rvA, mkE_cons, mk_nil, mkO_cons, mkO_nil, loadA, SV.tr, SV.trL, nmF, rn_nil, rn_cons1, rn_cons2, plainOb, SV.refsL, SV.refs, Ob.refs, X, F, List.range_succ, mkO, setO_mk]) (by simp [SV.tr, SV.trL])
abbrev Cu := Int × Int
def u8s (l : List Int) : List PV := l.map fun n => .int .u8 n
def isU : PV → Bool
  | .int .u8 n => decide (0 ≤ n) && decide (n ≤ 255)
  | _ => false
def ofU : PV → Int
  | .int _ n => n
  | _ => 0
def slU : PV → Option (List Int)
  | .sl 1 xs => if xs.all isU = true then some (xs.map ofU) else none
  | .nilsl => some []
  | _ => none
theorem isU_out : ∀ {xs : List PV}, xs.all isU = true → xs = u8s (xs.map ofU) ∧ ∀ x ∈ xs.map ofU, 0 ≤ x ∧ x ≤ 255
  | [], _ => ⟨rfl, by simp⟩
  | x :: r, h => by
    simp only [List.all_cons, Bool.and_eq_true] at h
    obtain ⟨h1, h2⟩ := isU_out (xs := r) h.2
    have h3 := h.1
    unfold isU at h3
    split at h3
    · rename_i n
      simp only [Bool.and_eq_true, decide_eq_true_eq] at h3
      refine ⟨?_, fun y hy => ?_⟩
      · simp only [List.map_cons, u8s, ofU] at h1 ⊢; rw [← h1]
      · simp only [List.map_cons, List.mem_cons] at hy
        rcases hy with rfl | hy
        · exact h3
        · exact h2 y hy
    · cases h3
theorem slU_out {v : PV} {l : List Int} (h : slU v = some l) : (v = .sl 1 (u8s l) ∨ (v = .nilsl ∧ l = [])) ∧ ∀ x ∈ l, 0 ≤ x ∧ x ≤ 255 := by
  unfold slU at h
  split at h
  · split at h
    · rename_i hs
      obtain ⟨h1, h2⟩ := isU_out hs
      injection h with h
      subst h
      rw [← h1]
      exact ⟨.inl rfl, h2⟩
    · cases h
  · injection h with h; subst h; exact ⟨.inr ⟨rfl, rfl⟩, by simp⟩
  · cases h
theorem u8s_len (l : List Int) : (u8s l).length = l.length := by simp [u8s]
theorem u8s_get {l : List Int} {i : Nat} (h : i < l.length) : (u8s l)[i]? = some (.int .u8 (l.getD i 0)) := by simp [u8s, h]
def nxB (l : List Int) (a : Int) : Int := if a < l.length then l.getD a.toNat 0 else 0
def nxS (l : List Int) (c : Cu) : Int := IntKind.u64.wrap (IntKind.u64.wrap (IntKind.u64.wrap (c.2 * 6364136223846793005) + IntKind.u64.wrap (nxB l c.1)) + 462197)
def nxR (l : List Int) (c : Cu) : Int := if c.1 + 1 ≤ l.length then nxB l c.1 else IntKind.i64.wrap (andW .u64 ((nxS l c).fdiv (2 ^ min (Int.toNat 40) IntKind.u64.bits)) 255)
def nxC (l : List Int) (c : Cu) : Cu := (c.1 + 1, nxS l c)
theorem nxB_b {l : List Int} (hl : ∀ x ∈ l, 0 ≤ x ∧ x ≤ 255) {a : Int} (h0 : 0 ≤ a) : 0 ≤ nxB l a ∧ nxB l a ≤ 255 := by
  unfold nxB
  split
  · rename_i h
    have : a.toNat < l.length := by omega
    rw [show l.getD a.toNat 0 = l[a.toNat] by simp [this]]
    exact hl _ (List.getElem_mem _)
  · omega
theorem and255 (x : Int) : 0 ≤ andW .u64 x 255 ∧ andW .u64 x 255 ≤ 255 := by
  have h : (BitVec.ofInt 64 x &&& BitVec.ofInt 64 255).toNat ≤ 255 := by
    rw [BitVec.toNat_and]
    exact Nat.le_trans Nat.and_le_right (by decide)
  show 0 ≤ IntKind.u64.wrap ((BitVec.ofInt 64 x &&& BitVec.ofInt 64 255).toNat : Int) ∧ IntKind.u64.wrap ((BitVec.ofInt 64 x &&& BitVec.ofInt 64 255).toNat : Int) ≤ 255
  generalize (BitVec.ofInt 64 x &&& BitVec.ofInt 64 255).toNat = n at h ⊢
  rw [IntKind.wrap_u64]
  omega
theorem nxR_b {l : List Int} (hl : ∀ x ∈ l, 0 ≤ x ∧ x ≤ 255) {c : Cu} (h0 : 0 ≤ c.1) : 0 ≤ nxR l c ∧ nxR l c ≤ 255 := by
  unfold nxR
  split
  · exact nxB_b hl h0
  · have := and255 ((nxS l c).fdiv (2 ^ min (Int.toNat 40) IntKind.u64.bits))
    rw [wrap64 (by omega) (by omega)]
    exact this
def a_next : AFn := ⟨1, 
  .seq (.reg [⟨some 2, none, .d (.mv (.c (.int .i64 0)))⟩])
  (.seq (.reg [⟨some 3, none, .d (.mv (.c (.int .i64 0)))⟩])
  (.seq (.seq (.dreg [] [([], ⟨some 4, none, .d (.mv (.t 0))⟩),
    ([], ⟨some 5, none, .d (.nilck (.t 4))⟩),
    ([], ⟨some 6, none, .d (.fa 1 (.t 5))⟩),
    ([], ⟨some 7, none, .d (.load false 1 (.t 6))⟩),
    ([], ⟨some 8, none, .d (.mv (.t 0))⟩),
    ([], ⟨some 9, none, .d (.nilck (.t 8))⟩),
    ([], ⟨some 10, none, .d (.fa 0 (.t 9))⟩),
    ([], ⟨some 11, none, .d (.load false 1 (.t 10))⟩),
    ([], ⟨some 12, none, .d (.len (.t 11))⟩)] [⟨some 13, none, .d (.bin .arith .lss (.t 7) (.t 12))⟩])
  (.cond (.t 13) (.dreg [] [([], ⟨some 14, none, .d (.mv (.t 0))⟩),
     ([], ⟨some 15, none, .d (.nilck (.t 14))⟩),
     ([], ⟨some 16, none, .d (.fa 0 (.t 15))⟩),
     ([], ⟨some 17, none, .d (.load false 1 (.t 16))⟩),
     ([], ⟨some 18, none, .d (.mv (.t 0))⟩),
     ([], ⟨some 19, none, .d (.nilck (.t 18))⟩),
     ([], ⟨some 20, none, .d (.fa 1 (.t 19))⟩),
     ([], ⟨some 21, none, .d (.load false 1 (.t 20))⟩)] [⟨some 22, none, .d (.ia 1 (.t 17) (.t 21))⟩,
     ⟨some 23, none, .d (.load false 1 (.t 22))⟩,
     ⟨some 24, none, .d (.conv .i64 (.t 23))⟩,
     ⟨some 3, none, .d (.mv (.t 24))⟩]) (.skip)))
  (.seq (.reg [⟨some 25, none, .d (.mv (.t 0))⟩,
    ⟨some 26, none, .d (.nilck (.t 25))⟩,
    ⟨some 27, none, .d (.fa 1 (.t 26))⟩,
    ⟨some 28, none, .d (.load false 1 (.t 27))⟩,
    ⟨some 29, none, .d (.bin .arith .add (.t 28) (.c (.int .i64 1)))⟩,
    ⟨some 30, none, .d (.nilck (.t 25))⟩,
    ⟨some 31, none, .d (.fa 1 (.t 30))⟩,
    ⟨none, none, .w (.store 1 (.t 31) (.t 29))⟩])
  (.seq (.reg [⟨some 32, none, .d (.mv (.t 0))⟩,
    ⟨some 33, none, .d (.mv (.t 0))⟩,
    ⟨some 34, none, .d (.nilck (.t 33))⟩,
    ⟨some 35, none, .d (.fa 2 (.t 34))⟩,
    ⟨some 36, none, .d (.load false 1 (.t 35))⟩,
    ⟨some 37, none, .d (.bin .arith .mul (.t 36) (.c (.int .u64 6364136223846793005)))⟩,
    ⟨some 38, none, .d (.mv (.t 3))⟩,
    ⟨some 39, none, .d (.conv .u64 (.t 38))⟩,
    ⟨some 40, none, .d (.bin .arith .add (.t 37) (.t 39))⟩,
    ⟨some 41, none, .d (.bin .arith .add (.t 40) (.c (.int .u64 462197)))⟩,
    ⟨some 42, none, .d (.nilck (.t 32))⟩,
    ⟨some 43, none, .d (.fa 2 (.t 42))⟩,
    ⟨none, none, .w (.store 1 (.t 43) (.t 41))⟩])
  (.seq (.seq (.dreg [] [([], ⟨some 44, none, .d (.mv (.t 0))⟩),
    ([], ⟨some 45, none, .d (.nilck (.t 44))⟩),
    ([], ⟨some 46, none, .d (.fa 1 (.t 45))⟩),
    ([], ⟨some 47, none, .d (.load false 1 (.t 46))⟩),
    ([], ⟨some 48, none, .d (.mv (.t 0))⟩),
    ([], ⟨some 49, none, .d (.nilck (.t 48))⟩),
    ([], ⟨some 50, none, .d (.fa 0 (.t 49))⟩),
    ([], ⟨some 51, none, .d (.load false 1 (.t 50))⟩),
    ([], ⟨some 52, none, .d (.len (.t 51))⟩)] [⟨some 53, none, .d (.bin .arith .leq (.t 47) (.t 52))⟩])
  (.cond (.t 53) (.seq (.reg [⟨some 54, none, .d (.mv (.t 3))⟩,
     ⟨some 2, none, .d (.mv (.t 54))⟩])
   (.ret)) (.skip)))
  (.seq (.reg [⟨some 55, none, .d (.mv (.t 0))⟩,
    ⟨some 56, none, .d (.nilck (.t 55))⟩,
    ⟨some 57, none, .d (.fa 2 (.t 56))⟩,
    ⟨some 58, none, .d (.load false 1 (.t 57))⟩,
    ⟨some 59, none, .d (.bin .arith .shr (.t 58) (.c (.int .u64 40)))⟩,
    ⟨some 60, none, .d (.bin .arith .and (.t 59) (.c (.int .u64 255)))⟩,
    ⟨some 61, none, .d (.conv .i64 (.t 60))⟩,
    ⟨some 2, none, .d (.mv (.t 61))⟩])
  (.ret))))))), [.tmp 2]⟩
def n_next : Nat → Option Ann := fun _ => none
abbrev k_next : List Nat := [0, 2, 3, 13, 53]
abbrev o_next : List Nat := []
def c_next : Con
  | [.bx 1000000 0], [.box [.p v, .p (.int .i64 a), .p (.int .u64 s)]] => match slU v with
    | some l => if 0 ≤ a ∧ a ≤ 1000000 then some (.p (.int .i64 (nxR l (a, s))), [.box [.p v, .p (.int .i64 (a + 1)), .p (.int .u64 (nxS l (a, s)))]], []) else none
    | none => none
  | _, _ => none
theorem s_next {P : Program} (hm : P.follows .mixedOrders = true) {Γ : Gam} (hΓ : GS P Γ) {n : FuncId} (is : Is P n a_next)  : Says P n c_next := by
  intro args ext r ext' fs h
  unfold c_next at h
  split at h
  case h_2 => cases h
  rename_i v a s
  split at h
  case h_2 => cases h
  rename_i l hv
  split at h
  case isFalse => cases h
  rename_i hc
  obtain ⟨h0, h1⟩ := hc
  simp only [Option.some.injEq, Prod.mk.injEq] at h
  obtain ⟨rfl, rfl, rfl⟩ := h
  obtain ⟨hv1, hr⟩ := slU_out hv
  have hw1 : IntKind.i64.wrap (a + 1) = a + 1 := wrap64 (by omega) (by omega)
  refine is.goX hm hΓ k_next (1000000 :: o_next) (by simp [a_next]) (by simp) ?_
  rcases hv1 with rfl | ⟨rfl, rfl⟩
  · by_cases hlt : a < l.length
    · have hn : ((a.toNat : Nat) : Int) = a := by omega
      have hb : l.getD a.toNat 0 = nxB l a := by simp [nxB, hlt]
      have hg := u8s_get (l := l) (i := a.toNat) (by omega)
      have hb2 := nxB_b hr h0
      have hw : IntKind.i64.wrap (nxB l a) = nxB l a := wrap64 (by omega) (by omega)
      rw [hb] at hg
      have h2 : a + 1 ≤ l.length := by omega
      simp only [a_next, u8s_len, hlt, hg, hw, hw1, h0, h2, shfI, List.zipIdx_cons, List.zipIdx_nil, ↓SP, SQ, Gam.add, stepM, callC, argC, lendO, nmBy, nmC, likeL, likeB, plainOb, offs, exL, X, F, trP, trO, stepD, stepW, newA, SV.tr, SV.trL, fz, allP, Ob.tr, loadA, cellsA, SV.cells, binA, binI, eqOut, isSl, isPt, natOf, callee, snap, SV.refsL, SV.refs, thaw, fzAll, loA, hiA, elemOf, partsA, buildA, putCells, ↓reduceIte, reduceCtorEq, okCell, Nat.reduceAdd, Nat.reduceEqDiff, Nat.reduceSub, Nat.reduceMul, Nat.reduceLeDiff, Nat.reduceLT, Nat.reduceBEq, PV.scal, PV.scalL, SV.scal, SV.scalL, Ob.scal, PV.isCell, pure', resO]
      have e1 : nxR l (a, s) = nxB l a := by simp [nxR, h2]
      rw [e1]
      refine finA_gen [] trivial (by simp [retA, rvA, mkE_cons, mk_nil, mkO_cons, mkO_nil, loadA, SV.tr, SV.trL, nmF, rn_nil, rn_cons1, rn_cons2, plainOb, SV.refsL, SV.refs, Ob.refs, X, F, List.range_succ, mkO, setO_mk]; rfl) ?_ ?_ ?_ ?_ ?_ ?_ ?_ <;> simp [nxS, retA, rvA, mkE_cons, mk_nil, mkO_cons, mkO_nil, loadA, SV.tr, SV.trL, nmF, rn_nil, rn_cons1, rn_cons2, plainOb, SV.refsL, SV.refs, Ob.refs, X, F, List.range_succ, mkO, setO_mk]
    · have hb : nxB l a = 0 := by simp [nxB, hlt]
      have hw : IntKind.i64.wrap 0 = 0 := rfl
      have h2 : ¬ a + 1 ≤ l.length := by omega
      simp only [a_next, u8s_len, hlt, hw1, h0, h2, shfI, Int.reduceLT, bitA_and, List.zipIdx_cons, List.zipIdx_nil, ↓SP, SQ, Gam.add, stepM, callC, argC, lendO, nmBy, nmC, likeL, likeB, plainOb, offs, exL, X, F, trP, trO, stepD, stepW, newA, SV.tr, SV.trL, fz, allP, Ob.tr, loadA, cellsA, SV.cells, binA, binI, eqOut, isSl, isPt, natOf, callee, snap, SV.refsL, SV.refs, thaw, fzAll, loA, hiA, elemOf, partsA, buildA, putCells, ↓reduceIte, reduceCtorEq, okCell, Nat.reduceAdd, Nat.reduceEqDiff, Nat.reduceSub, Nat.reduceMul, Nat.reduceLeDiff, Nat.reduceLT, Nat.reduceBEq, PV.scal, PV.scalL, SV.scal, SV.scalL, Ob.scal, PV.isCell, pure', resO]
      have e1 : nxR l (a, s) = IntKind.i64.wrap (andW .u64 ((nxS l (a, s)).fdiv (2 ^ min (Int.toNat 40) IntKind.u64.bits)) 255) := by simp only [nxR, h2, if_false]
      rw [e1]
      refine finA_gen [] trivial (by simp [retA, rvA, mkE_cons, mk_nil, mkO_cons, mkO_nil, loadA, SV.tr, SV.trL, nmF, rn_nil, rn_cons1, rn_cons2, plainOb, SV.refsL, SV.refs, Ob.refs, X, F, List.range_succ, mkO, setO_mk]; rfl) ?_ ?_ ?_ ?_ ?_ ?_ ?_ <;> simp [nxS, hb, retA, rvA, mkE_cons, mk_nil, mkO_cons, mkO_nil, loadA, SV.tr, SV.trL, nmF, rn_nil, rn_cons1, rn_cons2, plainOb, SV.refsL, SV.refs, Ob.refs, X, F, List.range_succ, mkO, setO_mk]
  · have hlt : ¬ a < (([] : List Int).length : Int) := by simp; omega
    have hlt' : ¬ a < ((0 : Nat) : Int) := by omega
    have hw : IntKind.i64.wrap 0 = 0 := rfl
    have hb : nxB [] a = 0 := by simp [nxB]
    have h2' : ¬ a + 1 ≤ ((0 : Nat) : Int) := by omega
    have h2 : ¬ a + 1 ≤ (([] : List Int).length : Int) := by simp; omega
    simp only [a_next, hlt', hw1, h0, h2', shfI, Int.reduceLT, bitA_and, List.zipIdx_cons, List.zipIdx_nil, ↓SP, SQ, Gam.add, stepM, callC, argC, lendO, nmBy, nmC, likeL, likeB, plainOb, offs, exL, X, F, trP, trO, stepD, stepW, newA, SV.tr, SV.trL, fz, allP, Ob.tr, loadA, cellsA, SV.cells, binA, binI, eqOut, isSl, isPt, natOf, callee, snap, SV.refsL, SV.refs, thaw, fzAll, loA, hiA, elemOf, partsA, buildA, putCells, ↓reduceIte, reduceCtorEq, okCell, Nat.reduceAdd, Nat.reduceEqDiff, Nat.reduceSub, Nat.reduceMul, Nat.reduceLeDiff, Nat.reduceLT, Nat.reduceBEq, PV.scal, PV.scalL, SV.scal, SV.scalL, Ob.scal, PV.isCell, pure', resO]
    have e1 : nxR [] (a, s) = IntKind.i64.wrap (andW .u64 ((nxS [] (a, s)).fdiv (2 ^ min (Int.toNat 40) IntKind.u64.bits)) 255) := by simp only [nxR, h2, if_false]
    rw [e1]
    refine finA_gen [] trivial (by simp [retA, rvA, mkE_cons, mk_nil, mkO_cons, mkO_nil, loadA, SV.tr, SV.trL, nmF, rn_nil, rn_cons1, rn_cons2, plainOb, SV.refsL, SV.refs, Ob.refs, X, F, List.range_succ, mkO, setO_mk]; rfl) ?_ ?_ ?_ ?_ ?_ ?_ ?_ <;> simp [nxS, hb, retA, rvA, mkE_cons, mk_nil, mkO_cons, mkO_nil, loadA, SV.tr, SV.trL, nmF, rn_nil, rn_cons1, rn_cons2, plainOb, SV.refsL, SV.refs, Ob.refs, X, F, List.range_succ, mkO, setO_mk]
def pkV (l : List Int) (n : Int) (c : Cu) : Int := if n ≤ 1 then 0 else (nxR l c).tmod n
def pkC (l : List Int) (n : Int) (c : Cu) : Cu := if n ≤ 1 then c else nxC l c
theorem pkV_b {l : List Int} (hl : ∀ x ∈ l, 0 ≤ x ∧ x ≤ 255) {n : Int} {c : Cu} (h0 : 0 ≤ c.1) : 0 ≤ pkV l n c ∧ (pkV l n c < n ∨ pkV l n c = 0) := by
  unfold pkV
  split
  · exact ⟨by omega, .inr rfl⟩
  · have := nxR_b hl h0
    exact ⟨Int.tmod_nonneg _ this.1, .inl (Int.tmod_lt_of_pos _ (by omega))⟩
/-- Where a cursor stands, at most. -/
def CuA (c : Cu) (b : Int) : Prop := 0 ≤ c.1 ∧ c.1 ≤ b
theorem CuA.pk {c : Cu} {b : Int} (h : CuA c b) (l : List Int) (n : Int) : CuA (pkC l n c) (b + 1) := by
  unfold pkC
  split
  · exact ⟨h.1, by have := h.2; omega⟩
  · exact ⟨by have := h.1; simp only [nxC]; omega, by have := h.2; simp only [nxC]; omega⟩
theorem CuA.mono {c : Cu} {b b' : Int} (h : CuA c b) (hb : b ≤ b') : CuA c b' := ⟨h.1, Int.le_trans h.2 hb⟩
def a_pick (f_next : FuncId) : AFn := ⟨2, 
  .seq (.reg [⟨some 4, none, .d (.mv (.c (.int .i64 0)))⟩])
  (.seq (.seq (.reg [⟨some 6, none, .d (.mv (.t 1))⟩,
    ⟨some 7, none, .d (.bin .arith .leq (.t 6) (.c (.int .i64 1)))⟩])
  (.cond (.t 7) (.seq (.reg [⟨some 4, none, .d (.mv (.c (.int .i64 0)))⟩])
   (.ret)) (.skip)))
  (.seq (.reg [⟨some 8, none, .d (.mv (.t 0))⟩,
    ⟨some 9, none, .w (.callL (.f f_next) [(.t 8)] [1000000] 0 false)⟩,
    ⟨some 5, none, .d (.mv (.t 9))⟩])
  (.seq (.seq (.reg [⟨some 10, none, .d (.mv (.t 1))⟩,
    ⟨some 11, none, .d (.bin .arith .gtr (.t 10) (.c (.int .i64 200)))⟩])
  (.cond (.t 11) (.reg [⟨some 12, none, .d (.mv (.t 5))⟩,
     ⟨some 13, none, .d (.bin .arith .mul (.t 12) (.c (.int .i64 256)))⟩,
     ⟨some 14, none, .d (.mv (.t 0))⟩,
     ⟨some 15, none, .w (.callL (.f f_next) [(.t 14)] [1000000] 0 false)⟩,
     ⟨some 16, none, .d (.bin .arith .add (.t 13) (.t 15))⟩,
     ⟨some 5, none, .d (.mv (.t 16))⟩]) (.skip)))
  (.seq (.reg [⟨some 17, none, .d (.mv (.t 5))⟩,
    ⟨some 18, none, .d (.mv (.t 1))⟩,
    ⟨some 19, none, .d (.bin .arith .rem (.t 17) (.t 18))⟩,
    ⟨some 4, none, .d (.mv (.t 19))⟩])
  (.ret))))), [.tmp 4]⟩
def n_pick : Nat → Option Ann := fun d => if d = 9 then some ⟨[1000000], 0, false⟩ else if d = 15 then some ⟨[1000000], 0, false⟩ else none
abbrev k_pick : List Nat := [0, 1, 4, 5, 7, 11]
abbrev o_pick : List Nat := []
def c_pick : Con
  | [.bx 1000000 0, .p (.int .i64 n)], [.box [.p v, .p (.int .i64 a), .p (.int .u64 s)]] => match slU v with
    | some l => if 0 ≤ a ∧ a ≤ 1000 ∧ n ≤ 200 then some (.p (.int .i64 (pkV l n (a, s))), [.box [.p v, .p (.int .i64 (pkC l n (a, s)).1), .p (.int .u64 (pkC l n (a, s)).2)]], []) else none
    | none => none
  | _, _ => none
theorem s_pick {P : Program} (hm : P.follows .mixedOrders = true) {Γ : Gam} (hΓ : GS P Γ) {n : FuncId} {f_next : FuncId} (is : Is P n (a_pick f_next)) (h_next : Γ f_next = c_next)  : Says P n c_pick := by
  intro args ext r ext' fs h
  unfold c_pick at h
  split at h
  case h_2 => cases h
  rename_i n' v a s
  split at h
  case h_2 => cases h
  rename_i l hv
  split at h
  case isFalse => cases h
  rename_i hc
  obtain ⟨h0, h1, hn⟩ := hc
  simp only [Option.some.injEq, Prod.mk.injEq] at h
  obtain ⟨rfl, rfl, rfl⟩ := h
  refine is.goX hm hΓ k_pick (1000000 :: o_pick) (by simp [a_pick]) (by simp) ?_
  by_cases hle : n' ≤ 1
  · simp only [a_pick, hle, List.zipIdx_cons, List.zipIdx_nil, ↓SP, SQ, Gam.add, stepM, callC, argC, lendO, nmBy, nmC, likeL, likeB, plainOb, offs, exL, X, F, trP, trO, stepD, stepW, newA, SV.tr, SV.trL, fz, allP, Ob.tr, loadA, cellsA, SV.cells, binA, binI, eqOut, isSl, isPt, natOf, callee, snap, SV.refsL, SV.refs, thaw, fzAll, loA, hiA, elemOf, partsA, buildA, putCells, ↓reduceIte, reduceCtorEq, okCell, Nat.reduceAdd, Nat.reduceEqDiff, Nat.reduceSub, Nat.reduceMul, Nat.reduceLeDiff, Nat.reduceLT, Nat.reduceBEq, PV.scal, PV.scalL, SV.scal, SV.scalL, Ob.scal, PV.isCell, pure', resO]
    have e1 : pkV l n' (a, s) = 0 := by simp [pkV, hle]
    have e2 : pkC l n' (a, s) = (a, s) := by simp [pkC, hle]
    rw [e1, e2]
    refine finA_gen [] trivial (by simp [retA, rvA, mkE_cons, mk_nil, mkO_cons, mkO_nil, loadA, SV.tr, SV.trL, nmF, rn_nil, rn_cons1, rn_cons2, plainOb, SV.refsL, SV.refs, Ob.refs, X, F, List.range_succ, mkO, setO_mk]; rfl) ?_ ?_ ?_ ?_ ?_ ?_ ?_ <;> simp [retA, rvA, mkE_cons, mk_nil, mkO_cons, mkO_nil, loadA, SV.tr, SV.trL, nmF, rn_nil, rn_cons1, rn_cons2, plainOb, SV.refsL, SV.refs, Ob.refs, X, F, List.range_succ, mkO, setO_mk]
  · have h2 : ¬ n' > 200 := by omega
    have h3 : a ≤ 1000000 := by omega
    have hb := nxR_b (slU_out hv).2 (c := (a, s)) h0
    have hz : ¬ n' = 0 := by omega
    simp only [a_pick, h_next, c_next, hv, hle, h0, h3, h2, hz, List.zipIdx_cons, List.zipIdx_nil, ↓SP, SQ, Gam.add, stepM, callC, argC, lendO, nmBy, nmC, likeL, likeB, plainOb, offs, exL, X, F, trP, trO, stepD, stepW, newA, SV.tr, SV.trL, fz, allP, Ob.tr, loadA, cellsA, SV.cells, binA, binI, eqOut, isSl, isPt, natOf, callee, snap, SV.refsL, SV.refs, thaw, fzAll, loA, hiA, elemOf, partsA, buildA, putCells, ↓reduceIte, reduceCtorEq, okCell, Nat.reduceAdd, Nat.reduceEqDiff, Nat.reduceSub, Nat.reduceMul, Nat.reduceLeDiff, Nat.reduceLT, Nat.reduceBEq, PV.scal, PV.scalL, SV.scal, SV.scalL, Ob.scal, PV.isCell, pure', resO]
    have e1 : pkV l n' (a, s) = (nxR l (a, s)).tmod n' := by simp [pkV, hle]
    have e2 : pkC l n' (a, s) = (a + 1, nxS l (a, s)) := by simp [pkC, nxC, hle]
    rw [e1, e2]
    refine finA_gen [] trivial (by simp [retA, rvA, mkE_cons, mk_nil, mkO_cons, mkO_nil, loadA, SV.tr, SV.trL, nmF, rn_nil, rn_cons1, rn_cons2, plainOb, SV.refsL, SV.refs, Ob.refs, X, F, List.range_succ, mkO, setO_mk]; rfl) ?_ ?_ ?_ ?_ ?_ ?_ ?_ <;> simp [retA, rvA, mkE_cons, mk_nil, mkO_cons, mkO_nil, loadA, SV.tr, SV.trL, nmF, rn_nil, rn_cons1, rn_cons2, plainOb, SV.refsL, SV.refs, Ob.refs, X, F, List.range_succ, mkO, setO_mk]
def a_one (f_pick : FuncId) : AFn := ⟨2, 
  .seq (.reg [⟨some 4, none, .d (.mv (.c (.bool false)))⟩])
  (.seq (.reg [⟨some 5, none, .d (.mv (.t 0))⟩,
    ⟨some 6, none, .d (.mv (.t 1))⟩,
    ⟨some 7, none, .w (.callL (.f f_pick) [(.t 5), (.t 6)] [1000000] 0 false)⟩,
    ⟨some 8, none, .d (.bin .arith .eql (.t 7) (.c (.int .i64 0)))⟩,
    ⟨some 4, none, .d (.mv (.t 8))⟩])
  (.ret)), [.tmp 4]⟩
def n_one : Nat → Option Ann := fun d => if d = 7 then some ⟨[1000000], 0, false⟩ else none
abbrev k_one : List Nat := [0, 1, 4]
abbrev o_one : List Nat := []
def c_one : Con
  | [.bx 1000000 0, .p (.int .i64 n)], [.box [.p v, .p (.int .i64 a), .p (.int .u64 s)]] => match slU v with
    | some l => if 0 ≤ a ∧ a ≤ 1000 ∧ n ≤ 200 then some (.p (.bool (pkV l n (a, s) == 0)), [.box [.p v, .p (.int .i64 (pkC l n (a, s)).1), .p (.int .u64 (pkC l n (a, s)).2)]], []) else none
    | none => none
  | _, _ => none
theorem s_one {P : Program} (hm : P.follows .mixedOrders = true) {Γ : Gam} (hΓ : GS P Γ) {n : FuncId} {f_pick : FuncId} (is : Is P n (a_one f_pick)) (h_pick : Γ f_pick = c_pick)  : Says P n c_one := by
  intro args ext r ext' fs h
  unfold c_one at h
  split at h
  case h_2 => cases h
  rename_i n' v a s
  split at h
  case h_2 => cases h
  rename_i l hv
  split at h
  case isFalse => cases h
  rename_i hc
  obtain ⟨h0, h1, hn⟩ := hc
  simp only [Option.some.injEq, Prod.mk.injEq] at h
  obtain ⟨rfl, rfl, rfl⟩ := h
  refine is.goX hm hΓ k_one (1000000 :: o_one) (by simp [a_one]) (by simp) ?_
  simp only [a_one, h_pick, c_pick, hv, h0, h1, hn, List.zipIdx_cons, List.zipIdx_nil, ↓SP, SQ, Gam.add, stepM, callC, argC, lendO, nmBy, nmC, likeL, likeB, plainOb, offs, exL, X, F, trP, trO, stepD, stepW, newA, SV.tr, SV.trL, fz, allP, Ob.tr, loadA, cellsA, SV.cells, binA, binI, eqOut, isSl, isPt, natOf, callee, snap, SV.refsL, SV.refs, thaw, fzAll, loA, hiA, elemOf, partsA, buildA, putCells, ↓reduceIte, reduceCtorEq, okCell, Nat.reduceAdd, Nat.reduceEqDiff, Nat.reduceSub, Nat.reduceMul, Nat.reduceLeDiff, Nat.reduceLT, Nat.reduceBEq, PV.scal, PV.scalL, SV.scal, SV.scalL, Ob.scal, PV.isCell, pure', resO]
  refine finA_gen [] trivial (by simp [retA, rvA, mkE_cons, mk_nil, mkO_cons, mkO_nil, loadA, SV.tr, SV.trL, nmF, rn_nil, rn_cons1, rn_cons2, plainOb, SV.refsL, SV.refs, Ob.refs, X, F, List.range_succ, mkO, setO_mk]; rfl) ?_ ?_ ?_ ?_ ?_ ?_ ?_ <;> simp [retA, rvA, mkE_cons, mk_nil, mkO_cons, mkO_nil, loadA, SV.tr, SV.trL, nmF, rn_nil, rn_cons1, rn_cons2, plainOb, SV.refsL, SV.refs, Ob.refs, X, F, List.range_succ, mkO, setO_mk]
def a_among (f_pick : FuncId) : AFn := ⟨2, 
  .seq (.reg [⟨some 4, none, .d (.mv (.c (.int .i64 0)))⟩])
  (.seq (.reg [⟨some 5, none, .d (.mv (.t 1))⟩,
    ⟨some 6, none, .d (.mv (.t 0))⟩,
    ⟨some 7, none, .d (.mv (.t 1))⟩,
    ⟨some 8, none, .d (.len (.t 7))⟩,
    ⟨some 9, none, .w (.callL (.f f_pick) [(.t 6), (.t 8)] [1000000] 0 false)⟩,
    ⟨some 10, none, .d (.ia 1 (.t 5) (.t 9))⟩,
    ⟨some 11, none, .d (.load false 1 (.t 10))⟩,
    ⟨some 4, none, .d (.mv (.t 11))⟩])
  (.ret)), [.tmp 4]⟩
def n_among : Nat → Option Ann := fun d => if d = 9 then some ⟨[1000000], 0, false⟩ else none
abbrev k_among : List Nat := [0, 1, 4]
abbrev o_among : List Nat := []
def amV (l xs : List Int) (c : Cu) : Int := xs.getD (pkV l xs.length c).toNat 0
def c_among : Con
  | [.bx 1000000 0, .p (.sl 1 xs)], [.box [.p v, .p (.int .i64 a), .p (.int .u64 s)]] => match slU v with
    | some l => if 0 ≤ a ∧ a ≤ 1000 ∧ 1 ≤ xs.length ∧ xs.length ≤ 200 ∧ isI xs = true then some (.p (.int .i64 (amV l (ofI xs) (a, s))), [.box [.p v, .p (.int .i64 (pkC l xs.length (a, s)).1), .p (.int .u64 (pkC l xs.length (a, s)).2)]], []) else none
    | none => none
  | _, _ => none
theorem s_among {P : Program} (hm : P.follows .mixedOrders = true) {Γ : Gam} (hΓ : GS P Γ) {n : FuncId} {f_pick : FuncId} (is : Is P n (a_among f_pick)) (h_pick : Γ f_pick = c_pick)  : Says P n c_among := by
  intro args ext r ext' fs h
  unfold c_among at h
  split at h
  case h_2 => cases h
  rename_i xs v a s
  split at h
  case h_2 => cases h
  rename_i l hv
  split at h
  case isFalse => cases h
  rename_i hc
  obtain ⟨h0, h1, hl1, hl2, hi⟩ := hc
  obtain ⟨xs, rfl⟩ := isI_out hi
  simp only [Option.some.injEq, Prod.mk.injEq, ofI_ints, ints_len] at h hl1 hl2
  obtain ⟨rfl, rfl, rfl⟩ := h
  have hb := pkV_b (slU_out hv).2 (n := (xs.length : Int)) (c := (a, s)) h0
  have hn : (xs.length : Int) ≤ 200 := by omega
  have hb0 := hb.1
  have hg := ints_get (l := xs) (i := (pkV l (xs.length : Int) (a, s)).toNat) (by omega)
  refine is.goX hm hΓ k_among (1000000 :: o_among) (by simp [a_among]) (by simp) ?_
  simp only [a_among, h_pick, c_pick, hv, h0, h1, hn, hb0, hg, List.zipIdx_cons, List.zipIdx_nil, ↓SP, SQ, Gam.add, stepM, callC, argC, lendO, nmBy, nmC, likeL, likeB, plainOb, offs, exL, X, F, trP, trO, stepD, stepW, newA, SV.tr, SV.trL, fz, allP, Ob.tr, loadA, cellsA, SV.cells, binA, binI, eqOut, isSl, isPt, natOf, callee, snap, SV.refsL, SV.refs, thaw, fzAll, loA, hiA, elemOf, partsA, buildA, putCells, ↓reduceIte, reduceCtorEq, okCell, Nat.reduceAdd, Nat.reduceEqDiff, Nat.reduceSub, Nat.reduceMul, Nat.reduceLeDiff, Nat.reduceLT, Nat.reduceBEq, PV.scal, PV.scalL, SV.scal, SV.scalL, Ob.scal, PV.isCell, pure', resO]
  refine finA_gen [] trivial (by simp [retA, rvA, mkE_cons, mk_nil, mkO_cons, mkO_nil, loadA, SV.tr, SV.trL, nmF, rn_nil, rn_cons1, rn_cons2, plainOb, SV.refsL, SV.refs, Ob.refs, X, F, List.range_succ, mkO, setO_mk]; rfl) ?_ ?_ ?_ ?_ ?_ ?_ ?_ <;> simp [amV, retA, rvA, mkE_cons, mk_nil, mkO_cons, mkO_nil, loadA, SV.tr, SV.trL, nmF, rn_nil, rn_cons1, rn_cons2, plainOb, SV.refsL, SV.refs, Ob.refs, X, F, List.range_succ, mkO, setO_mk]
theorem cuEta (c : Cu) : (c.1, c.2) = c := rfl
theorem amV_mem {l xs : List Int} (hl : ∀ x ∈ l, 0 ≤ x ∧ x ≤ 255) {c : Cu} (h0 : 0 ≤ c.1) (hx : 1 ≤ xs.length) : amV l xs c ∈ xs := by
  have hb := pkV_b hl (n := (xs.length : Int)) (c := c) h0
  have hlt : (pkV l (xs.length : Int) c).toNat < xs.length := by omega
  unfold amV
  rw [show xs.getD (pkV l (xs.length : Int) c).toNat 0 = xs[(pkV l (xs.length : Int) c).toNat] by simp [hlt]]
  exact List.getElem_mem _
/-- counts, drawn one by one. -/
def cnS (l : List Int) (f : Int) (c : Cu) : Nat → List Int × Int × Cu
  | 0 => ([], f, c)
  | j + 1 => ((cnS l f c j).1 ++ [pkV l ((cnS l f c j).2.1 + 1) (cnS l f c j).2.2], (cnS l f c j).2.1 - pkV l ((cnS l f c j).2.1 + 1) (cnS l f c j).2.2, pkC l ((cnS l f c j).2.1 + 1) (cnS l f c j).2.2)
theorem cnS_b {l : List Int} (hl : ∀ x ∈ l, 0 ≤ x ∧ x ≤ 255) {f b : Int} {c : Cu} (hf : 0 ≤ f) (hc : CuA c b) : ∀ j, (cnS l f c j).1.length = j ∧ 0 ≤ (cnS l f c j).2.1 ∧ (cnS l f c j).2.1 ≤ f ∧ CuA (cnS l f c j).2.2 (b + j) ∧ ∀ x ∈ (cnS l f c j).1, 0 ≤ x ∧ x ≤ f
  | 0 => ⟨rfl, hf, Int.le_refl _, by simpa [cnS] using hc, by simp [cnS]⟩
  | j + 1 => by
    obtain ⟨h1, h2, h3, h4, h5⟩ := cnS_b hl hf hc j
    have hb := pkV_b hl (n := (cnS l f c j).2.1 + 1) h4.1
    refine ⟨by simp [cnS, h1], by simp only [cnS]; omega, by simp only [cnS]; omega, ?_, ?_⟩
    · have := h4.pk l ((cnS l f c j).2.1 + 1)
      simp only [cnS]
      exact this.mono (by omega)
    · intro x hx
      simp only [cnS, List.mem_append, List.mem_singleton] at hx
      rcases hx with hx | rfl
      · exact h5 x hx
      · omega
def cnE (l : List Int) (S : List Int × Int × Cu) : List Int × Cu :=
  if pkV l 40 S.2.2 = 0 then ([], pkC l 40 S.2.2) else if pkV l 40 S.2.2 = 1 then (S.1.set 0 (amV l [-1, 9, 8] (pkC l 40 S.2.2)), pkC l 3 (pkC l 40 S.2.2)) else if pkV l 40 S.2.2 = 2 then (S.1 ++ [0, 0, 0], pkC l 40 S.2.2) else (S.1, pkC l 40 S.2.2)
def cnR (l : List Int) (c : Cu) : List Int × Cu := cnE l (cnS l (amV l [4, 6, 8, 3, 7, 2, 5, 1, 0] c) (pkC l 7 (pkC l 9 c)) (amV l [2, 2, 1, 3, 2, 3, 1] (pkC l 9 c)).toNat)
def a_counts (f_among : FuncId) (f_pick : FuncId) : AFn := ⟨1, 
  .seq (.reg [⟨some 2, none, .d (.mv (.c (.nilsl)))⟩])
  (.seq (.reg [⟨some 7, none, .w (.bslice 1 [] [])⟩,
    ⟨some 8, none, .d (.mv (.t 0))⟩,
    ⟨some 9, none, .w (.bslice 1 [.int .i64 0, .int .i64 0, .int .i64 0, .int .i64 0, .int .i64 0, .int .i64 0, .int .i64 0, .int .i64 0, .int .i64 0] [(0, (.c (.int .i64 4))), (1, (.c (.int .i64 6))), (2, (.c (.int .i64 8))), (3, (.c (.int .i64 3))), (4, (.c (.int .i64 7))), (5, (.c (.int .i64 2))), (6, (.c (.int .i64 5))), (7, (.c (.int .i64 1))), (8, (.c (.int .i64 0)))])⟩,
    ⟨some 10, none, .w (.callL (.f f_among) [(.t 8), (.t 9)] [1000000] 0 true)⟩,
    ⟨some 3, none, .d (.mv (.t 7))⟩,
    ⟨some 4, none, .d (.mv (.t 10))⟩])
  (.seq (.seq (.reg [⟨some 11, none, .d (.mv (.t 0))⟩,
    ⟨some 12, none, .w (.bslice 1 [.int .i64 0, .int .i64 0, .int .i64 0, .int .i64 0, .int .i64 0, .int .i64 0, .int .i64 0] [(0, (.c (.int .i64 2))), (1, (.c (.int .i64 2))), (2, (.c (.int .i64 1))), (3, (.c (.int .i64 3))), (4, (.c (.int .i64 2))), (5, (.c (.int .i64 3))), (6, (.c (.int .i64 1)))])⟩,
    ⟨some 13, none, .w (.callL (.f f_among) [(.t 11), (.t 12)] [1000000] 0 true)⟩,
    ⟨some 5, none, .d (.mv (.t 13))⟩])
  (.block 0 (.loop (.seq (.seq (.reg [⟨some 14, none, .d (.mv (.t 5))⟩,
      ⟨some 15, none, .d (.bin .arith .gtr (.t 14) (.c (.int .i64 0)))⟩])
    (.cond (.t 15) (.skip) (.exit 0)))
    (.seq (.block 1 (.seq (.reg [⟨some 18, none, .d (.mv (.t 0))⟩,
       ⟨some 19, none, .d (.mv (.t 4))⟩,
       ⟨some 20, none, .d (.bin .arith .add (.t 19) (.c (.int .i64 1)))⟩,
       ⟨some 21, none, .w (.callL (.f f_pick) [(.t 18), (.t 20)] [1000000] 0 false)⟩,
       ⟨some 6, none, .d (.mv (.t 21))⟩])
     (.seq (.reg [⟨some 22, none, .d (.mv (.t 3))⟩,
       ⟨some 23, none, .d (.mv (.t 6))⟩,
       ⟨some 24, none, .w (.bslice 1 [.int .i64 0] [(0, (.t 23))])⟩,
       ⟨some 25, none, .w (.append 1 (.t 22) (.t 24))⟩,
       ⟨some 3, none, .d (.mv (.t 25))⟩])
     (.reg [⟨some 26, none, .d (.mv (.t 4))⟩,
       ⟨some 27, none, .d (.mv (.t 6))⟩,
       ⟨some 28, none, .d (.bin .arith .sub (.t 26) (.t 27))⟩,
       ⟨some 4, none, .d (.mv (.t 28))⟩]))))
    (.reg [⟨some 16, none, .d (.mv (.t 5))⟩,
      ⟨some 17, none, .d (.bin .arith .sub (.t 16) (.c (.int .i64 1)))⟩,
      ⟨some 5, none, .d (.mv (.t 17))⟩]))))))
  (.seq (.seq (.reg [⟨some 29, none, .d (.mv (.t 0))⟩,
    ⟨some 30, none, .w (.callL (.f f_pick) [(.t 29), (.c (.int .i64 40))] [1000000] 0 false)⟩])
  (.block 2 (.seq (.reg [⟨some 32, none, .d (.bin .arith .eql (.t 30) (.c (.int .i64 0)))⟩,
     ⟨some 31, none, .d (.mv (.t 32))⟩])
   (.cond (.t 31) (.seq (.reg [⟨some 33, none, .w (.bslice 1 [] [])⟩,
      ⟨some 2, none, .d (.mv (.t 33))⟩])
    (.ret)) (.seq (.reg [⟨some 35, none, .d (.bin .arith .eql (.t 30) (.c (.int .i64 1)))⟩,
      ⟨some 34, none, .d (.mv (.t 35))⟩])
    (.cond (.t 34) (.reg [⟨some 36, none, .d (.mv (.t 3))⟩,
       ⟨some 37, none, .d (.mv (.t 0))⟩,
       ⟨some 38, none, .w (.bslice 1 [.int .i64 0, .int .i64 0, .int .i64 0] [(0, (.c (.int .i64 (-1)))), (1, (.c (.int .i64 9))), (2, (.c (.int .i64 8)))])⟩,
       ⟨some 39, none, .w (.callL (.f f_among) [(.t 37), (.t 38)] [1000000] 0 true)⟩,
       ⟨some 40, none, .d (.ia 1 (.t 36) (.c (.int .i64 0)))⟩,
       ⟨none, none, .w (.store 1 (.t 40) (.t 39))⟩]) (.seq (.reg [⟨some 42, none, .d (.bin .arith .eql (.t 30) (.c (.int .i64 2)))⟩,
       ⟨some 41, none, .d (.mv (.t 42))⟩])
     (.cond (.t 41) (.seq (.reg [⟨some 43, none, .d (.mv (.t 3))⟩,
        ⟨some 44, none, .w (.bslice 1 [.int .i64 0, .int .i64 0, .int .i64 0] [(0, (.c (.int .i64 0))), (1, (.c (.int .i64 0))), (2, (.c (.int .i64 0)))])⟩,
        ⟨some 45, none, .w (.append 1 (.t 43) (.t 44))⟩,
        ⟨some 2, none, .d (.mv (.t 45))⟩])
      (.ret)) (.skip)))))))))
  (.seq (.reg [⟨some 46, none, .d (.mv (.t 3))⟩,
    ⟨some 2, none, .d (.mv (.t 46))⟩])
  (.ret))))), [.tmp 2]⟩
def n_counts : Nat → Option Ann := fun d => if d = 10 then some ⟨[1000000], 0, true⟩ else if d = 13 then some ⟨[1000000], 0, true⟩ else if d = 21 then some ⟨[1000000], 0, false⟩ else if d = 30 then some ⟨[1000000], 0, false⟩ else if d = 39 then some ⟨[1000000], 0, true⟩ else none
abbrev k_counts : List Nat := [0, 2, 3, 4, 5, 6, 15, 30, 31, 34, 41]
abbrev o_counts : List Nat := [7, 9, 12, 24, 25, 33, 38, 44, 45]
def c_counts : Con
  | [.bx 1000000 0], [.box [.p v, .p (.int .i64 a), .p (.int .u64 s)]] => match slU v with
    | some l => if 0 ≤ a ∧ a ≤ 900 then some (.ar 2000000, [.box [.p v, .p (.int .i64 (cnR l (a, s)).2.1), .p (.int .u64 (cnR l (a, s)).2.2)]], [.arr 1 (ints (cnR l (a, s)).1)]) else none
    | none => none
  | _, _ => none
theorem s_counts {P : Program} (hm : P.follows .mixedOrders = true) {Γ : Gam} (hΓ : GS P Γ) {n : FuncId} {f_among : FuncId} {f_pick : FuncId} (is : Is P n (a_counts f_among f_pick)) (h_among : Γ f_among = c_among) (h_pick : Γ f_pick = c_pick)  : Says P n c_counts := by
  intro args ext r ext' fs h
  unfold c_counts at h
  split at h
  case h_2 => cases h
  rename_i v a s
  split at h
  case h_2 => cases h
  rename_i l hv
  split at h
  case isFalse => cases h
  rename_i hc
  obtain ⟨h0, h1⟩ := hc
  simp only [Option.some.injEq, Prod.mk.injEq] at h
  obtain ⟨rfl, rfl, rfl⟩ := h
  have hl := (slU_out hv).2
  have ha0 : CuA (a, s) 900 := ⟨h0, h1⟩
  have h1' : a ≤ 1000 := by omega
  have ha1 := ha0.pk l 9
  have ha2 := ha1.pk l 7
  have hL : 0 ≤ amV l [4, 6, 8, 3, 7, 2, 5, 1, 0] (a, s) ∧ amV l [4, 6, 8, 3, 7, 2, 5, 1, 0] (a, s) ≤ 8 := (by decide : ∀ x ∈ ([4, 6, 8, 3, 7, 2, 5, 1, 0] : List Int), 0 ≤ x ∧ x ≤ 8) _ (amV_mem hl ha0.1 (by decide))
  have hM : 1 ≤ amV l [2, 2, 1, 3, 2, 3, 1] (pkC l 9 (a, s)) ∧ amV l [2, 2, 1, 3, 2, 3, 1] (pkC l 9 (a, s)) ≤ 3 := (by decide : ∀ x ∈ ([2, 2, 1, 3, 2, 3, 1] : List Int), 1 ≤ x ∧ x ≤ 3) _ (amV_mem hl ha1.1 (by decide))
  have hcr : cnR l (a, s) = cnE l (cnS l (amV l [4, 6, 8, 3, 7, 2, 5, 1, 0] (a, s)) (pkC l 7 (pkC l 9 (a, s))) (amV l [2, 2, 1, 3, 2, 3, 1] (pkC l 9 (a, s))).toNat) := rfl
  refine is.goX hm hΓ k_counts (1000000 :: o_counts) (by simp [a_counts]) (by simp) ?_
  have q1 := ha1.1
  have q2 : (pkC l 9 (a, s)).1 ≤ 1000 := by have := ha1.2; omega
  rw [hcr]
  simp only [a_counts, h_among, c_among, h_pick, c_pick, hv, h0, h1', q1, q2, isI, ofI, cuEta, Int.cast_ofNat_Int, List.zipIdx_cons, List.zipIdx_nil, ↓SP, SQ, Gam.add, stepM, callC, argC, lendO, nmBy, nmC, likeL, likeB, plainOb, offs, exL, X, F, trP, trO, stepD, stepW, newA, SV.tr, SV.trL, fz, allP, Ob.tr, loadA, cellsA, SV.cells, binA, binI, eqOut, isSl, isPt, natOf, callee, snap, SV.refsL, SV.refs, thaw, fzAll, loA, hiA, elemOf, partsA, buildA, putCells, ↓reduceIte, reduceCtorEq, okCell, Nat.reduceAdd, Nat.reduceEqDiff, Nat.reduceSub, Nat.reduceMul, Nat.reduceLeDiff, Nat.reduceLT, Nat.reduceBEq, PV.scal, PV.scalL, SV.scal, SV.scalL, Ob.scal, PV.isCell, pure', resO]
  generalize amV l [4, 6, 8, 3, 7, 2, 5, 1, 0] (a, s) = L at *
  generalize amV l [2, 2, 1, 3, 2, 3, 1] (pkC l 9 (a, s)) = M at *
  generalize pkC l 7 (pkC l 9 (a, s)) = c2 at *
  obtain ⟨M, rfl⟩ : ∃ m : Nat, M = m := ⟨M.toNat, by omega⟩
  have hcn := cnS_b hl hL.1 ha2
  generalize hS : cnS l L c2 = S at *
  have hSs : ∀ j, S (j + 1) = ((S j).1 ++ [pkV l ((S j).2.1 + 1) (S j).2.2], (S j).2.1 - pkV l ((S j).2.1 + 1) (S j).2.2, pkC l ((S j).2.1 + 1) (S j).2.2) := fun j => by rw [← hS]; rfl
  have hS0 : S 0 = ([], L, c2) := by rw [← hS]; rfl
  simp only [Int.toNat_natCast]
  refine loop_at (fun s : Nat × SV × SV × Option Ob => mkEnv [(0, .bx 1000000 0), (2, .p .nilsl), (3, .ar 7), (4, si (S s.1).2.1), (5, si ((M : Int) - s.1)), (6, s.2.1), (15, s.2.2.1), (30, .junk), (31, .junk), (34, .junk), (41, .junk)])
    (fun s => mkO [(1000000, some (.box [.p v, si (S s.1).2.2.1, .p (.int .u64 (S s.1).2.2.2)])), (7, some (.arr 1 (ints (S s.1).1))), (9, none), (12, none), (24, s.2.2.2), (25, none), (33, none), (38, none), (44, none), (45, none)])
    (fun s => s.1 ≤ M) (fun s => M - s.1) (0, .junk, .junk, none) (by simp) (by simp [hS0]) (by simp [hS0]; rfl) ?_
  rintro ⟨j, x6, x15, o24⟩ hj R hR hN
  simp only at hj
  obtain ⟨g1, g2, g3, g4, g5⟩ := hcn j
  have r1 := g4.1
  have r2 : (S j).2.2.1 ≤ 1000 := by have := g4.2; omega
  by_cases h : j < M
  · have hgt : (M : Int) - j > 0 := by omega
    have hw : IntKind.i64.wrap ((S j).2.1 + 1) = (S j).2.1 + 1 := wrap64 (by omega) (by omega)
    have hp := pkV_b hl (n := (S j).2.1 + 1) g4.1
    have hw2 : IntKind.i64.wrap ((S j).2.1 - pkV l ((S j).2.1 + 1) (S j).2.2) = (S (j + 1)).2.1 := by rw [hSs]; exact wrap64 (by omega) (by omega)
    have hw3 : IntKind.i64.wrap ((M : Int) - j - 1) = (M : Int) - ((j + 1 : Nat) : Int) := by rw [wrap64 (by omega) (by omega)]; omega
    have hn : (S j).2.1 + 1 ≤ 200 := by omega
    have hap : ints (S j).1 ++ [.int .i64 (pkV l ((S j).2.1 + 1) (S j).2.2)] = ints (S (j + 1)).1 := by rw [hSs]; exact ints_app1 _ _
    have hln : (S j).1.length + 1 ≤ roomA := by rw [g1]; exact Nat.le_trans (by omega) (by decide : 100 ≤ roomA)
    have hc1 : pkC l ((S j).2.1 + 1) (S j).2.2 = (S (j + 1)).2.2 := by rw [hSs]
    simp only [h_pick, c_pick, hv, r1, r2, hgt, hw, hw2, hw3, hn, hap, hln, hc1, cuEta, ↓SP, SQ, Gam.add, stepM, callC, argC, lendO, nmBy, nmC, likeL, likeB, plainOb, offs, exL, X, F, trP, trO, stepD, stepW, newA, SV.tr, SV.trL, fz, allP, Ob.tr, loadA, cellsA, SV.cells, binA, binI, eqOut, isSl, isPt, natOf, callee, snap, SV.refsL, SV.refs, thaw, fzAll, loA, hiA, elemOf, partsA, buildA, putCells, ↓reduceIte, reduceCtorEq, okCell, Nat.reduceAdd, Nat.reduceEqDiff, Nat.reduceSub, Nat.reduceMul, Nat.reduceLeDiff, Nat.reduceLT, Nat.reduceBEq, PV.scal, PV.scalL, SV.scal, SV.scalL, Ob.scal, PV.isCell, pure', resO]
    exact hN (j + 1, _, _, _) _ _ (by simp only; omega) (by simp only; omega) rfl rfl
  · have he : j = M := by omega
    subst he
    have hgt : ¬ (j : Int) - j > 0 := by omega
    simp only [hgt, ↓SP, SQ, Gam.add, stepM, callC, argC, lendO, nmBy, nmC, likeL, likeB, plainOb, offs, exL, X, F, trP, trO, stepD, stepW, newA, SV.tr, SV.trL, fz, allP, Ob.tr, loadA, cellsA, SV.cells, binA, binI, eqOut, isSl, isPt, natOf, callee, snap, SV.refsL, SV.refs, thaw, fzAll, loA, hiA, elemOf, partsA, buildA, putCells, ↓reduceIte, reduceCtorEq, okCell, Nat.reduceAdd, Nat.reduceEqDiff, Nat.reduceSub, Nat.reduceMul, Nat.reduceLeDiff, Nat.reduceLT, Nat.reduceBEq, PV.scal, PV.scalL, SV.scal, SV.scalL, Ob.scal, PV.isCell, pure', resO]
    refine hR _ _ _ (by intro h; cases h) ?_
    simp only [h_pick, c_pick, hv, r1, r2, cuEta, (by decide : (40 : Int) ≤ 200), ↓SP, SQ, Gam.add, stepM, callC, argC, lendO, nmBy, nmC, likeL, likeB, plainOb, offs, exL, X, F, trP, trO, stepD, stepW, newA, SV.tr, SV.trL, fz, allP, Ob.tr, loadA, cellsA, SV.cells, binA, binI, eqOut, isSl, isPt, natOf, callee, snap, SV.refsL, SV.refs, thaw, fzAll, loA, hiA, elemOf, partsA, buildA, putCells, ↓reduceIte, reduceCtorEq, okCell, Nat.reduceAdd, Nat.reduceEqDiff, Nat.reduceSub, Nat.reduceMul, Nat.reduceLeDiff, Nat.reduceLT, Nat.reduceBEq, PV.scal, PV.scalL, SV.scal, SV.scalL, Ob.scal, PV.isCell, pure', resO]
    have ha3 := g4.pk l 40
    have t1 := ha3.1
    have t2 : (pkC l 40 (S j).2.2).1 ≤ 1000 := by have := ha3.2; omega
    unfold cnE
    by_cases p0 : pkV l 40 (S j).2.2 = 0
    · simp only [p0, if_true, ↓SP, SQ, Gam.add, stepM, callC, argC, lendO, nmBy, nmC, likeL, likeB, plainOb, offs, exL, X, F, trP, trO, stepD, stepW, newA, SV.tr, SV.trL, fz, allP, Ob.tr, loadA, cellsA, SV.cells, binA, binI, eqOut, isSl, isPt, natOf, callee, snap, SV.refsL, SV.refs, thaw, fzAll, loA, hiA, elemOf, partsA, buildA, putCells, ↓reduceIte, reduceCtorEq, okCell, Nat.reduceAdd, Nat.reduceEqDiff, Nat.reduceSub, Nat.reduceMul, Nat.reduceLeDiff, Nat.reduceLT, Nat.reduceBEq, PV.scal, PV.scalL, SV.scal, SV.scalL, Ob.scal, PV.isCell, pure', resO]
      refine finA_gen [33] trivial (by simp [retA, rvA, mkE_cons, mk_nil, mkO_cons, mkO_nil, loadA, SV.tr, SV.trL, nmF, rn_nil, rn_cons1, rn_cons2, plainOb, SV.refsL, SV.refs, Ob.refs, X, F, List.range_succ, mkO, setO_mk]; rfl) ?_ ?_ ?_ ?_ ?_ ?_ ?_ <;> simp [ints, retA, rvA, mkE_cons, mk_nil, mkO_cons, mkO_nil, loadA, SV.tr, SV.trL, nmF, rn_nil, rn_cons1, rn_cons2, plainOb, SV.refsL, SV.refs, Ob.refs, X, F, List.range_succ, mkO, setO_mk]
    · have p0' : (pkV l 40 (S j).2.2 == 0) = false := by simp [p0]
      by_cases p1 : pkV l 40 (S j).2.2 = 1
      · have d1 : (S j).1 ≠ [] := by intro h; rw [h] at g1; simp at g1; omega
        have d2 : 0 < (S j).1.length := by omega
        have hg := ints_get (l := (S j).1) (i := 0) d2
        have hst : (ints (S j).1).set 0 (.int .i64 (amV l [-1, 9, 8] (pkC l 40 (S j).2.2))) = ints ((S j).1.set 0 (amV l [-1, 9, 8] (pkC l 40 (S j).2.2))) := ints_set _ _ _
        simp only [p0, p1, h_among, c_among, t1, t2, hv, hg, hst, d2, isI, ofI, cuEta, Int.cast_ofNat_Int, if_true, if_false, (by decide : ¬ (1 : Int) = 0), (by decide : ((1 : Int) == 0) = false), Int.le_refl, Int.reduceToNat, ↓SP, SQ, Gam.add, stepM, callC, argC, lendO, nmBy, nmC, likeL, likeB, plainOb, offs, exL, X, F, trP, trO, stepD, stepW, newA, SV.tr, SV.trL, fz, allP, Ob.tr, loadA, cellsA, SV.cells, binA, binI, eqOut, isSl, isPt, natOf, callee, snap, SV.refsL, SV.refs, thaw, fzAll, loA, hiA, elemOf, partsA, buildA, putCells, ↓reduceIte, reduceCtorEq, okCell, Nat.reduceAdd, Nat.reduceEqDiff, Nat.reduceSub, Nat.reduceMul, Nat.reduceLeDiff, Nat.reduceLT, Nat.reduceBEq, PV.scal, PV.scalL, SV.scal, SV.scalL, Ob.scal, PV.isCell, pure', resO]
        refine finA_gen [7] trivial (by simp [retA, rvA, mkE_cons, mk_nil, mkO_cons, mkO_nil, loadA, SV.tr, SV.trL, nmF, rn_nil, rn_cons1, rn_cons2, plainOb, SV.refsL, SV.refs, Ob.refs, X, F, List.range_succ, mkO, setO_mk]; rfl) ?_ ?_ ?_ ?_ ?_ ?_ ?_ <;> simp [retA, rvA, mkE_cons, mk_nil, mkO_cons, mkO_nil, loadA, SV.tr, SV.trL, nmF, rn_nil, rn_cons1, rn_cons2, plainOb, SV.refsL, SV.refs, Ob.refs, X, F, List.range_succ, mkO, setO_mk]
      · have p1' : (pkV l 40 (S j).2.2 == 1) = false := by simp [p1]
        by_cases p2 : pkV l 40 (S j).2.2 = 2
        · have hln : (S j).1.length + 3 ≤ roomA := by rw [g1]; exact Nat.le_trans (by omega) (by decide : 100 ≤ roomA)
          have hap : ints (S j).1 ++ [.int .i64 0, .int .i64 0, .int .i64 0] = ints ((S j).1 ++ [0, 0, 0]) := ints_app (S j).1 [0, 0, 0]
          simp only [p0, p1, p2, if_true, if_false, (by decide : ¬ (2 : Int) = 0), (by decide : ¬ (2 : Int) = 1), (by decide : ((2 : Int) == 0) = false), (by decide : ((2 : Int) == 1) = false), hln, hap, ↓SP, SQ, Gam.add, stepM, callC, argC, lendO, nmBy, nmC, likeL, likeB, plainOb, offs, exL, X, F, trP, trO, stepD, stepW, newA, SV.tr, SV.trL, fz, allP, Ob.tr, loadA, cellsA, SV.cells, binA, binI, eqOut, isSl, isPt, natOf, callee, snap, SV.refsL, SV.refs, thaw, fzAll, loA, hiA, elemOf, partsA, buildA, putCells, ↓reduceIte, reduceCtorEq, okCell, Nat.reduceAdd, Nat.reduceEqDiff, Nat.reduceSub, Nat.reduceMul, Nat.reduceLeDiff, Nat.reduceLT, Nat.reduceBEq, PV.scal, PV.scalL, SV.scal, SV.scalL, Ob.scal, PV.isCell, pure', resO]
          refine finA_gen [7] trivial (by simp [retA, rvA, mkE_cons, mk_nil, mkO_cons, mkO_nil, loadA, SV.tr, SV.trL, nmF, rn_nil, rn_cons1, rn_cons2, plainOb, SV.refsL, SV.refs, Ob.refs, X, F, List.range_succ, mkO, setO_mk]; rfl) ?_ ?_ ?_ ?_ ?_ ?_ ?_ <;> simp [retA, rvA, mkE_cons, mk_nil, mkO_cons, mkO_nil, loadA, SV.tr, SV.trL, nmF, rn_nil, rn_cons1, rn_cons2, plainOb, SV.refsL, SV.refs, Ob.refs, X, F, List.range_succ, mkO, setO_mk]
        · have p2' : (pkV l 40 (S j).2.2 == 2) = false := by simp [p2]
          simp only [p0, p1, p2, p0', p1', p2', if_true, if_false, ↓SP, SQ, Gam.add, stepM, callC, argC, lendO, nmBy, nmC, likeL, likeB, plainOb, offs, exL, X, F, trP, trO, stepD, stepW, newA, SV.tr, SV.trL, fz, allP, Ob.tr, loadA, cellsA, SV.cells, binA, binI, eqOut, isSl, isPt, natOf, callee, snap, SV.refsL, SV.refs, thaw, fzAll, loA, hiA, elemOf, partsA, buildA, putCells, ↓reduceIte, reduceCtorEq, okCell, Nat.reduceAdd, Nat.reduceEqDiff, Nat.reduceSub, Nat.reduceMul, Nat.reduceLeDiff, Nat.reduceLT, Nat.reduceBEq, PV.scal, PV.scalL, SV.scal, SV.scalL, Ob.scal, PV.isCell, pure', resO]
          refine finA_gen [7] trivial (by simp [retA, rvA, mkE_cons, mk_nil, mkO_cons, mkO_nil, loadA, SV.tr, SV.trL, nmF, rn_nil, rn_cons1, rn_cons2, plainOb, SV.refsL, SV.refs, Ob.refs, X, F, List.range_succ, mkO, setO_mk]; rfl) ?_ ?_ ?_ ?_ ?_ ?_ ?_ <;> simp [retA, rvA, mkE_cons, mk_nil, mkO_cons, mkO_nil, loadA, SV.tr, SV.trL, nmF, rn_nil, rn_cons1, rn_cons2, plainOb, SV.refsL, SV.refs, Ob.refs, X, F, List.range_succ, mkO, setO_mk]
def mo (x : Int) : Int := if 1 > x + 1 then 1 else x + 1
theorem mo_b (x : Int) : 1 ≤ mo x ∧ (mo x = x + 1 ∨ (x < 0 ∧ mo x = 1)) := by unfold mo; split <;> omega
/-- a split, drawn one by one. -/
def spS (l cs : List Int) (c : Cu) : Nat → List Int × Cu
  | 0 => ([], c)
  | j + 1 => ((spS l cs c j).1 ++ [pkV l (mo (cs.getD j 0)) (spS l cs c j).2], pkC l (mo (cs.getD j 0)) (spS l cs c j).2)
theorem spS_b {l : List Int} (hl : ∀ x ∈ l, 0 ≤ x ∧ x ≤ 255) {b : Int} {c : Cu} (cs : List Int) (hcs : ∀ x ∈ cs, x ≤ 100) (hc : CuA c b) : ∀ j, j ≤ cs.length → (spS l cs c j).1.length = j ∧ CuA (spS l cs c j).2 (b + j) ∧ ∀ x ∈ (spS l cs c j).1, 0 ≤ x ∧ x ≤ 100
  | 0, _ => ⟨rfl, by simpa [spS] using hc, by simp [spS]⟩
  | j + 1, hj => by
    obtain ⟨h1, h4, h5⟩ := spS_b hl cs hcs hc j (by omega)
    have hb := pkV_b hl (n := mo (cs.getD j 0)) h4.1
    have hm := mo_b (cs.getD j 0)
    have hx := hcs (cs.getD j 0) (by rw [show cs.getD j 0 = cs[j] by simp [show j < cs.length by omega]]; exact List.getElem_mem _)
    refine ⟨by simp [spS, h1], ?_, ?_⟩
    · have := h4.pk l (mo (cs.getD j 0))
      simp only [spS]
      exact this.mono (by omega)
    · intro x hx'
      simp only [spS, List.mem_append, List.mem_singleton] at hx'
      rcases hx' with hx' | rfl
      · exact h5 x hx'
      · omega
def spA (l cs : List Int) (S : List Int × Cu) : List Int × Cu := if 0 < S.1.length then (if pkV l 24 S.2 = 0 then (S.1.set 0 (amV l [-1, cs.getD 0 0 + 1] (pkC l 24 S.2)), pkC l 2 (pkC l 24 S.2)) else (S.1, pkC l 24 S.2)) else S
def spB (l : List Int) (S : List Int × Cu) : List Int × Cu := (if pkV l 40 S.2 = 0 then S.1 ++ [0] else S.1, pkC l 40 S.2)
def spR (l cs : List Int) (c : Cu) : List Int × Cu := spB l (spA l cs (spS l cs c cs.length))
def a_split (f_l1Most : FuncId) (f_pick : FuncId) (f_one : FuncId) (f_among : FuncId) : AFn := ⟨2, 
  .seq (.reg [⟨some 4, none, .d (.mv (.c (.nilsl)))⟩])
  (.seq (.reg [⟨some 7, none, .w (.bslice 1 [] [])⟩,
    ⟨some 5, none, .d (.mv (.t 7))⟩])
  (.seq (.seq (.reg [⟨some 6, none, .d (.mv (.c (.int .i64 0)))⟩])
  (.block 0 (.loop (.seq (.seq (.reg [⟨some 8, none, .d (.mv (.t 6))⟩,
      ⟨some 9, none, .d (.mv (.t 1))⟩,
      ⟨some 10, none, .d (.len (.t 9))⟩,
      ⟨some 11, none, .d (.bin .arith .lss (.t 8) (.t 10))⟩])
    (.cond (.t 11) (.skip) (.exit 0)))
    (.seq (.block 1 (.reg [⟨some 14, none, .d (.mv (.t 5))⟩,
       ⟨some 15, none, .d (.mv (.t 0))⟩,
       ⟨some 16, none, .d (.mv (.t 1))⟩,
       ⟨some 17, none, .d (.mv (.t 6))⟩,
       ⟨some 18, none, .d (.ia 1 (.t 16) (.t 17))⟩,
       ⟨some 19, none, .d (.load false 1 (.t 18))⟩,
       ⟨some 20, none, .d (.bin .arith .add (.t 19) (.c (.int .i64 1)))⟩,
       ⟨some 21, none, .d (.call (.f f_l1Most) [(.c (.int .i64 1)), (.t 20)])⟩,
       ⟨some 22, none, .w (.callL (.f f_pick) [(.t 15), (.t 21)] [1000000] 0 false)⟩,
       ⟨some 23, none, .w (.bslice 1 [.int .i64 0] [(0, (.t 22))])⟩,
       ⟨some 24, none, .w (.append 1 (.t 14) (.t 23))⟩,
       ⟨some 5, none, .d (.mv (.t 24))⟩]))
    (.reg [⟨some 12, none, .d (.mv (.t 6))⟩,
      ⟨some 13, none, .d (.bin .arith .add (.t 12) (.c (.int .i64 1)))⟩,
      ⟨some 6, none, .d (.mv (.t 13))⟩]))))))
  (.seq (.seq (.reg [⟨some 25, none, .d (.mv (.t 5))⟩,
    ⟨some 26, none, .d (.len (.t 25))⟩,
    ⟨some 27, none, .d (.bin .arith .gtr (.t 26) (.c (.int .i64 0)))⟩,
    ⟨some 28, none, .d (.mv (.t 27))⟩,
    ⟨some 29, some (28, true), .d (.mv (.t 0))⟩,
    ⟨some 30, some (28, true), .w (.callL (.f f_one) [(.t 29), (.c (.int .i64 24))] [1000000] 0 false)⟩,
    ⟨some 31, none, .d (.pick (.t 28) (.t 30) (.c (.bool false)))⟩])
  (.cond (.t 31) (.reg [⟨some 32, none, .d (.mv (.t 5))⟩,
     ⟨some 33, none, .d (.mv (.t 0))⟩,
     ⟨some 34, none, .d (.mv (.t 1))⟩,
     ⟨some 35, none, .d (.ia 1 (.t 34) (.c (.int .i64 0)))⟩,
     ⟨some 36, none, .d (.load false 1 (.t 35))⟩,
     ⟨some 37, none, .d (.bin .arith .add (.t 36) (.c (.int .i64 1)))⟩,
     ⟨some 38, none, .w (.bslice 1 [.int .i64 0, .int .i64 0] [(0, (.c (.int .i64 (-1)))), (1, (.t 37))])⟩,
     ⟨some 39, none, .w (.callL (.f f_among) [(.t 33), (.t 38)] [1000000] 0 true)⟩,
     ⟨some 40, none, .d (.ia 1 (.t 32) (.c (.int .i64 0)))⟩,
     ⟨none, none, .w (.store 1 (.t 40) (.t 39))⟩]) (.skip)))
  (.seq (.seq (.reg [⟨some 41, none, .d (.mv (.t 0))⟩,
    ⟨some 42, none, .w (.callL (.f f_one) [(.t 41), (.c (.int .i64 40))] [1000000] 0 false)⟩])
  (.cond (.t 42) (.reg [⟨some 43, none, .d (.mv (.t 5))⟩,
     ⟨some 44, none, .w (.bslice 1 [.int .i64 0] [(0, (.c (.int .i64 0)))])⟩,
     ⟨some 45, none, .w (.append 1 (.t 43) (.t 44))⟩,
     ⟨some 5, none, .d (.mv (.t 45))⟩]) (.skip)))
  (.seq (.reg [⟨some 46, none, .d (.mv (.t 5))⟩,
    ⟨some 4, none, .d (.mv (.t 46))⟩])
  (.ret)))))), [.tmp 4]⟩
def n_split : Nat → Option Ann := fun d => if d = 22 then some ⟨[1000000], 0, false⟩ else if d = 30 then some ⟨[1000000], 0, false⟩ else if d = 39 then some ⟨[1000000], 0, true⟩ else if d = 42 then some ⟨[1000000], 0, false⟩ else none
abbrev k_split : List Nat := [0, 1, 4, 5, 6, 11, 31, 42]
abbrev o_split : List Nat := [7, 23, 24, 38, 44, 45]
def c_split : Con
  | [.bx 1000000 0, .p (.sl 1 xs)], [.box [.p v, .p (.int .i64 a), .p (.int .u64 s)]] => match slU v with
    | some l => if 0 ≤ a ∧ a ≤ 500 ∧ isI xs = true ∧ xs.length ≤ 50 ∧ (∀ x ∈ ofI xs, -100 ≤ x ∧ x ≤ 100) then some (.ar 2000000, [.box [.p v, .p (.int .i64 (spR l (ofI xs) (a, s)).2.1), .p (.int .u64 (spR l (ofI xs) (a, s)).2.2)]], [.arr 1 (ints (spR l (ofI xs) (a, s)).1)]) else none
    | none => none
  | _, _ => none
theorem s_split {P : Program} (hm : P.follows .mixedOrders = true) {Γ : Gam} (hΓ : GS P Γ) {n : FuncId} {f_l1Most : FuncId} {f_pick : FuncId} {f_one : FuncId} {f_among : FuncId} (is : Is P n (a_split f_l1Most f_pick f_one f_among)) (h_l1Most : Γ f_l1Most = c_l1Most) (h_pick : Γ f_pick = c_pick) (h_one : Γ f_one = c_one) (h_among : Γ f_among = c_among)  : Says P n c_split := by
  intro args ext r ext' fs h
  unfold c_split at h
  split at h
  case h_2 => cases h
  rename_i cs v a s
  split at h
  case h_2 => cases h
  rename_i l hv
  split at h
  case isFalse => cases h
  rename_i hc
  obtain ⟨h0, h1, hi, hl0, hcs⟩ := hc
  obtain ⟨cs, rfl⟩ := isI_out hi
  simp only [Option.some.injEq, Prod.mk.injEq, ofI_ints, ints_len] at h hcs hl0
  obtain ⟨rfl, rfl, rfl⟩ := h
  have hl := (slU_out hv).2
  have ha0 : CuA (a, s) 500 := ⟨h0, h1⟩
  have hcn := spS_b hl cs (fun x hx => (hcs x hx).2) ha0
  unfold spR
  refine is.goX hm hΓ k_split (1000000 :: o_split) (by simp [a_split]) (by simp) ?_
  simp only [a_split, h_l1Most, c_l1Most, h_one, c_one, h_among, c_among, h_pick, c_pick, hv, List.zipIdx_cons, List.zipIdx_nil, ↓SP, SQ, Gam.add, stepM, callC, argC, lendO, nmBy, nmC, likeL, likeB, plainOb, offs, exL, X, F, trP, trO, stepD, stepW, newA, SV.tr, SV.trL, fz, allP, Ob.tr, loadA, cellsA, SV.cells, binA, binI, eqOut, isSl, isPt, natOf, callee, snap, SV.refsL, SV.refs, thaw, fzAll, loA, hiA, elemOf, partsA, buildA, putCells, ↓reduceIte, reduceCtorEq, okCell, Nat.reduceAdd, Nat.reduceEqDiff, Nat.reduceSub, Nat.reduceMul, Nat.reduceLeDiff, Nat.reduceLT, Nat.reduceBEq, PV.scal, PV.scalL, SV.scal, SV.scalL, Ob.scal, PV.isCell, pure', resO]
  generalize hS : spS l cs (a, s) = S at *
  have hSs : ∀ j, S (j + 1) = ((S j).1 ++ [pkV l (mo (cs.getD j 0)) (S j).2], pkC l (mo (cs.getD j 0)) (S j).2) := fun j => by rw [← hS]; rfl
  have hS0 : S 0 = ([], (a, s)) := by rw [← hS]; rfl
  refine loop_at (fun s : Nat × SV × Option Ob => mkEnv [(0, .bx 1000000 0), (1, .p (.sl 1 (ints cs))), (4, .p .nilsl), (5, .ar 7), (6, si s.1), (11, s.2.1), (31, .junk), (42, .junk)])
    (fun s => mkO [(1000000, some (.box [.p v, si (S s.1).2.1, .p (.int .u64 (S s.1).2.2)])), (7, some (.arr 1 (ints (S s.1).1))), (23, s.2.2), (24, none), (38, none), (44, none), (45, none)])
    (fun s => s.1 ≤ cs.length) (fun s => cs.length - s.1) (0, .junk, none) (by simp) (by simp [hS0]) (by simp [hS0]; rfl) ?_
  rintro ⟨j, x11, o23⟩ hj R hR hN
  simp only at hj
  obtain ⟨g1, g4, g5⟩ := hcn j hj
  have r1 := g4.1
  have r2 : (S j).2.1 ≤ 1000 := by have := g4.2; omega
  by_cases h : j < cs.length
  · have hlt : (j : Int) < cs.length := by omega
    have hg := ints_get h
    have hx := hcs (cs.getD j 0) (by rw [show cs.getD j 0 = cs[j] by simp [h]]; exact List.getElem_mem _)
    have hw : IntKind.i64.wrap (cs.getD j 0 + 1) = cs.getD j 0 + 1 := wrap64 (by omega) (by omega)
    have hw1 : IntKind.i64.wrap ((j : Int) + 1) = ((j + 1 : Nat) : Int) := wrap_one (by omega)
    have hmo : (if 1 > cs.getD j 0 + 1 then 1 else cs.getD j 0 + 1) = mo (cs.getD j 0) := rfl
    have hmb := mo_b (cs.getD j 0)
    have hn : mo (cs.getD j 0) ≤ 200 := by omega
    have hap : ints (S j).1 ++ [.int .i64 (pkV l (mo (cs.getD j 0)) (S j).2)] = ints (S (j + 1)).1 := by rw [hSs]; exact ints_app1 _ _
    have hln : (S j).1.length + 1 ≤ roomA := by rw [g1]; exact Nat.le_trans (by omega) (by decide : 100 ≤ roomA)
    have hc1 : pkC l (mo (cs.getD j 0)) (S j).2 = (S (j + 1)).2 := by rw [hSs]
    simp only [h_l1Most, c_l1Most, h_pick, c_pick, hv, r1, r2, hlt, hg, h, hw, hw1, hmo, hn, hap, hln, hc1, cuEta, ↓SP, SQ, Gam.add, stepM, callC, argC, lendO, nmBy, nmC, likeL, likeB, plainOb, offs, exL, X, F, trP, trO, stepD, stepW, newA, SV.tr, SV.trL, fz, allP, Ob.tr, loadA, cellsA, SV.cells, binA, binI, eqOut, isSl, isPt, natOf, callee, snap, SV.refsL, SV.refs, thaw, fzAll, loA, hiA, elemOf, partsA, buildA, putCells, ↓reduceIte, reduceCtorEq, okCell, Nat.reduceAdd, Nat.reduceEqDiff, Nat.reduceSub, Nat.reduceMul, Nat.reduceLeDiff, Nat.reduceLT, Nat.reduceBEq, PV.scal, PV.scalL, SV.scal, SV.scalL, Ob.scal, PV.isCell, pure', resO]
    exact hN (j + 1, _, _) _ _ (by simp only; omega) (by simp only; omega) rfl rfl
  · have he : j = cs.length := by omega
    subst he
    have hlt : ¬ (cs.length : Int) < cs.length := by omega
    simp only [hlt, ↓SP, SQ, Gam.add, stepM, callC, argC, lendO, nmBy, nmC, likeL, likeB, plainOb, offs, exL, X, F, trP, trO, stepD, stepW, newA, SV.tr, SV.trL, fz, allP, Ob.tr, loadA, cellsA, SV.cells, binA, binI, eqOut, isSl, isPt, natOf, callee, snap, SV.refsL, SV.refs, thaw, fzAll, loA, hiA, elemOf, partsA, buildA, putCells, ↓reduceIte, reduceCtorEq, okCell, Nat.reduceAdd, Nat.reduceEqDiff, Nat.reduceSub, Nat.reduceMul, Nat.reduceLeDiff, Nat.reduceLT, Nat.reduceBEq, PV.scal, PV.scalL, SV.scal, SV.scalL, Ob.scal, PV.isCell, pure', resO]
    refine hR _ _ _ (by intro h; cases h) ?_
    generalize hT : S cs.length = T at *
    have s24 := g4.pk l 24
    have u1 := s24.1
    have u2 : (pkC l 24 T.2).1 ≤ 1000 := by have := s24.2; omega
    by_cases hz : 0 < cs.length
    · have hz1 : 0 < T.1.length := by omega
      have hz2 : ((cs.length : Nat) : Int) > 0 := by omega
      by_cases p0 : pkV l 24 T.2 = 0
      · have p0' : (pkV l 24 T.2 == 0) = true := by simp [p0]
        have hA : spA l cs T = (T.1.set 0 (amV l [-1, cs.getD 0 0 + 1] (pkC l 24 T.2)), pkC l 2 (pkC l 24 T.2)) := by simp [spA, hz1, p0]
        have hg0 := ints_get (l := cs) (i := 0) hz
        have hx := hcs (cs.getD 0 0) (by rw [show cs.getD 0 0 = cs[0] by simp [hz]]; exact List.getElem_mem _)
        have hw : IntKind.i64.wrap (cs.getD 0 0 + 1) = cs.getD 0 0 + 1 := wrap64 (by omega) (by omega)
        have hg := ints_get (l := T.1) (i := 0) hz1
        have hst : (ints T.1).set 0 (.int .i64 (amV l [-1, cs.getD 0 0 + 1] (pkC l 24 T.2))) = ints (T.1.set 0 (amV l [-1, cs.getD 0 0 + 1] (pkC l 24 T.2))) := ints_set _ _ _
        have s2 := s24.pk l 2
        have w1 := s2.1
        have w2 : (pkC l 2 (pkC l 24 T.2)).1 ≤ 1000 := by have := s2.2; omega
        have hln : (T.1.set 0 (amV l [-1, cs.getD 0 0 + 1] (pkC l 24 T.2))).length + 1 ≤ roomA := by rw [List.length_set, g1]; exact Nat.le_trans (by omega) (by decide : 100 ≤ roomA)
        have hap : ints (T.1.set 0 (amV l [-1, cs.getD 0 0 + 1] (pkC l 24 T.2))) ++ [.int .i64 0] = ints ((T.1.set 0 (amV l [-1, cs.getD 0 0 + 1] (pkC l 24 T.2))) ++ [0]) := ints_app1 _ _
        rw [hA]
        by_cases p2 : pkV l 40 (pkC l 2 (pkC l 24 T.2)) = 0
        · have p2' : (pkV l 40 (pkC l 2 (pkC l 24 T.2)) == 0) = true := by simp [p2]
          have hB : spB l ((T.1.set 0 (amV l [-1, cs.getD 0 0 + 1] (pkC l 24 T.2))), (pkC l 2 (pkC l 24 T.2))) = ((T.1.set 0 (amV l [-1, cs.getD 0 0 + 1] (pkC l 24 T.2))) ++ [0], pkC l 40 (pkC l 2 (pkC l 24 T.2))) := by simp [spB, p2]
          simp only [g1, h_one, c_one, hv, r1, r2, hz2, p2', hln, hap, cuEta, (by decide : (24 : Int) ≤ 200), (by decide : (40 : Int) ≤ 200), p0', h_among, c_among, u1, u2, w1, w2, hg0, hw, hg, hst, hz, hz1, isI, ofI, Int.cast_ofNat_Int, Int.le_refl, Int.reduceToNat, ↓SP, SQ, Gam.add, stepM, callC, argC, lendO, nmBy, nmC, likeL, likeB, plainOb, offs, exL, X, F, trP, trO, stepD, stepW, newA, SV.tr, SV.trL, fz, allP, Ob.tr, loadA, cellsA, SV.cells, binA, binI, eqOut, isSl, isPt, natOf, callee, snap, SV.refsL, SV.refs, thaw, fzAll, loA, hiA, elemOf, partsA, buildA, putCells, ↓reduceIte, reduceCtorEq, okCell, Nat.reduceAdd, Nat.reduceEqDiff, Nat.reduceSub, Nat.reduceMul, Nat.reduceLeDiff, Nat.reduceLT, Nat.reduceBEq, PV.scal, PV.scalL, SV.scal, SV.scalL, Ob.scal, PV.isCell, pure', resO]
          rw [hB]
          refine finA_gen [7] trivial (by simp [retA, rvA, mkE_cons, mk_nil, mkO_cons, mkO_nil, loadA, SV.tr, SV.trL, nmF, rn_nil, rn_cons1, rn_cons2, plainOb, SV.refsL, SV.refs, Ob.refs, X, F, List.range_succ, mkO, setO_mk]; rfl) ?_ ?_ ?_ ?_ ?_ ?_ ?_ <;> simp [retA, rvA, mkE_cons, mk_nil, mkO_cons, mkO_nil, loadA, SV.tr, SV.trL, nmF, rn_nil, rn_cons1, rn_cons2, plainOb, SV.refsL, SV.refs, Ob.refs, X, F, List.range_succ, mkO, setO_mk]
        · have p2' : (pkV l 40 (pkC l 2 (pkC l 24 T.2)) == 0) = false := by simp [p2]
          have hB : spB l ((T.1.set 0 (amV l [-1, cs.getD 0 0 + 1] (pkC l 24 T.2))), (pkC l 2 (pkC l 24 T.2))) = ((T.1.set 0 (amV l [-1, cs.getD 0 0 + 1] (pkC l 24 T.2))), pkC l 40 (pkC l 2 (pkC l 24 T.2))) := by simp [spB, p2]
          simp only [g1, h_one, c_one, hv, r1, r2, hz2, p2', hln, hap, cuEta, (by decide : (24 : Int) ≤ 200), (by decide : (40 : Int) ≤ 200), p0', h_among, c_among, u1, u2, w1, w2, hg0, hw, hg, hst, hz, hz1, isI, ofI, Int.cast_ofNat_Int, Int.le_refl, Int.reduceToNat, ↓SP, SQ, Gam.add, stepM, callC, argC, lendO, nmBy, nmC, likeL, likeB, plainOb, offs, exL, X, F, trP, trO, stepD, stepW, newA, SV.tr, SV.trL, fz, allP, Ob.tr, loadA, cellsA, SV.cells, binA, binI, eqOut, isSl, isPt, natOf, callee, snap, SV.refsL, SV.refs, thaw, fzAll, loA, hiA, elemOf, partsA, buildA, putCells, ↓reduceIte, reduceCtorEq, okCell, Nat.reduceAdd, Nat.reduceEqDiff, Nat.reduceSub, Nat.reduceMul, Nat.reduceLeDiff, Nat.reduceLT, Nat.reduceBEq, PV.scal, PV.scalL, SV.scal, SV.scalL, Ob.scal, PV.isCell, pure', resO]
          rw [hB]
          refine finA_gen [7] trivial (by simp [retA, rvA, mkE_cons, mk_nil, mkO_cons, mkO_nil, loadA, SV.tr, SV.trL, nmF, rn_nil, rn_cons1, rn_cons2, plainOb, SV.refsL, SV.refs, Ob.refs, X, F, List.range_succ, mkO, setO_mk]; rfl) ?_ ?_ ?_ ?_ ?_ ?_ ?_ <;> simp [retA, rvA, mkE_cons, mk_nil, mkO_cons, mkO_nil, loadA, SV.tr, SV.trL, nmF, rn_nil, rn_cons1, rn_cons2, plainOb, SV.refsL, SV.refs, Ob.refs, X, F, List.range_succ, mkO, setO_mk]
      · have p0' : (pkV l 24 T.2 == 0) = false := by simp [p0]
        have hA : spA l cs T = (T.1, pkC l 24 T.2) := by simp [spA, hz1, p0]
        have hln : cs.length + 1 ≤ roomA := Nat.le_trans (by omega) (by decide : 100 ≤ roomA)
        have hap : ints T.1 ++ [.int .i64 0] = ints (T.1 ++ [0]) := ints_app1 _ _
        rw [hA]
        by_cases p2 : pkV l 40 (pkC l 24 T.2) = 0
        · have p2' : (pkV l 40 (pkC l 24 T.2) == 0) = true := by simp [p2]
          have hB : spB l (T.1, (pkC l 24 T.2)) = (T.1 ++ [0], pkC l 40 (pkC l 24 T.2)) := by simp [spB, p2]
          simp only [g1, h_one, c_one, hv, r1, r2, hz2, p2', hln, hap, cuEta, (by decide : (24 : Int) ≤ 200), (by decide : (40 : Int) ≤ 200), p0', u1, u2, ↓SP, SQ, Gam.add, stepM, callC, argC, lendO, nmBy, nmC, likeL, likeB, plainOb, offs, exL, X, F, trP, trO, stepD, stepW, newA, SV.tr, SV.trL, fz, allP, Ob.tr, loadA, cellsA, SV.cells, binA, binI, eqOut, isSl, isPt, natOf, callee, snap, SV.refsL, SV.refs, thaw, fzAll, loA, hiA, elemOf, partsA, buildA, putCells, ↓reduceIte, reduceCtorEq, okCell, Nat.reduceAdd, Nat.reduceEqDiff, Nat.reduceSub, Nat.reduceMul, Nat.reduceLeDiff, Nat.reduceLT, Nat.reduceBEq, PV.scal, PV.scalL, SV.scal, SV.scalL, Ob.scal, PV.isCell, pure', resO]
          rw [hB]
          refine finA_gen [7] trivial (by simp [retA, rvA, mkE_cons, mk_nil, mkO_cons, mkO_nil, loadA, SV.tr, SV.trL, nmF, rn_nil, rn_cons1, rn_cons2, plainOb, SV.refsL, SV.refs, Ob.refs, X, F, List.range_succ, mkO, setO_mk]; rfl) ?_ ?_ ?_ ?_ ?_ ?_ ?_ <;> simp [retA, rvA, mkE_cons, mk_nil, mkO_cons, mkO_nil, loadA, SV.tr, SV.trL, nmF, rn_nil, rn_cons1, rn_cons2, plainOb, SV.refsL, SV.refs, Ob.refs, X, F, List.range_succ, mkO, setO_mk]
        · have p2' : (pkV l 40 (pkC l 24 T.2) == 0) = false := by simp [p2]
          have hB : spB l (T.1, (pkC l 24 T.2)) = (T.1, pkC l 40 (pkC l 24 T.2)) := by simp [spB, p2]
          simp only [g1, h_one, c_one, hv, r1, r2, hz2, p2', hln, hap, cuEta, (by decide : (24 : Int) ≤ 200), (by decide : (40 : Int) ≤ 200), p0', u1, u2, ↓SP, SQ, Gam.add, stepM, callC, argC, lendO, nmBy, nmC, likeL, likeB, plainOb, offs, exL, X, F, trP, trO, stepD, stepW, newA, SV.tr, SV.trL, fz, allP, Ob.tr, loadA, cellsA, SV.cells, binA, binI, eqOut, isSl, isPt, natOf, callee, snap, SV.refsL, SV.refs, thaw, fzAll, loA, hiA, elemOf, partsA, buildA, putCells, ↓reduceIte, reduceCtorEq, okCell, Nat.reduceAdd, Nat.reduceEqDiff, Nat.reduceSub, Nat.reduceMul, Nat.reduceLeDiff, Nat.reduceLT, Nat.reduceBEq, PV.scal, PV.scalL, SV.scal, SV.scalL, Ob.scal, PV.isCell, pure', resO]
          rw [hB]
          refine finA_gen [7] trivial (by simp [retA, rvA, mkE_cons, mk_nil, mkO_cons, mkO_nil, loadA, SV.tr, SV.trL, nmF, rn_nil, rn_cons1, rn_cons2, plainOb, SV.refsL, SV.refs, Ob.refs, X, F, List.range_succ, mkO, setO_mk]; rfl) ?_ ?_ ?_ ?_ ?_ ?_ ?_ <;> simp [retA, rvA, mkE_cons, mk_nil, mkO_cons, mkO_nil, loadA, SV.tr, SV.trL, nmF, rn_nil, rn_cons1, rn_cons2, plainOb, SV.refsL, SV.refs, Ob.refs, X, F, List.range_succ, mkO, setO_mk]
    · have hz1 : ¬ 0 < T.1.length := by omega
      have hz2 : ¬ ((cs.length : Nat) : Int) > 0 := by omega
      have hA : spA l cs T = (T.1, T.2) := by simp [spA, hz1]
      have hln : cs.length + 1 ≤ roomA := Nat.le_trans (by omega) (by decide : 100 ≤ roomA)
      have hap : ints T.1 ++ [.int .i64 0] = ints (T.1 ++ [0]) := ints_app1 _ _
      rw [hA]
      by_cases p2 : pkV l 40 T.2 = 0
      · have p2' : (pkV l 40 T.2 == 0) = true := by simp [p2]
        have hB : spB l (T.1, T.2) = (T.1 ++ [0], pkC l 40 T.2) := by simp [spB, p2]
        simp only [g1, h_one, c_one, hv, r1, r2, hz2, p2', hln, hap, cuEta, (by decide : (24 : Int) ≤ 200), (by decide : (40 : Int) ≤ 200), u1, ↓SP, SQ, Gam.add, stepM, callC, argC, lendO, nmBy, nmC, likeL, likeB, plainOb, offs, exL, X, F, trP, trO, stepD, stepW, newA, SV.tr, SV.trL, fz, allP, Ob.tr, loadA, cellsA, SV.cells, binA, binI, eqOut, isSl, isPt, natOf, callee, snap, SV.refsL, SV.refs, thaw, fzAll, loA, hiA, elemOf, partsA, buildA, putCells, ↓reduceIte, reduceCtorEq, okCell, Nat.reduceAdd, Nat.reduceEqDiff, Nat.reduceSub, Nat.reduceMul, Nat.reduceLeDiff, Nat.reduceLT, Nat.reduceBEq, PV.scal, PV.scalL, SV.scal, SV.scalL, Ob.scal, PV.isCell, pure', resO]
        rw [hB]
        refine finA_gen [7] trivial (by simp [retA, rvA, mkE_cons, mk_nil, mkO_cons, mkO_nil, loadA, SV.tr, SV.trL, nmF, rn_nil, rn_cons1, rn_cons2, plainOb, SV.refsL, SV.refs, Ob.refs, X, F, List.range_succ, mkO, setO_mk]; rfl) ?_ ?_ ?_ ?_ ?_ ?_ ?_ <;> simp [retA, rvA, mkE_cons, mk_nil, mkO_cons, mkO_nil, loadA, SV.tr, SV.trL, nmF, rn_nil, rn_cons1, rn_cons2, plainOb, SV.refsL, SV.refs, Ob.refs, X, F, List.range_succ, mkO, setO_mk]
      · have p2' : (pkV l 40 T.2 == 0) = false := by simp [p2]
        have hB : spB l (T.1, T.2) = (T.1, pkC l 40 T.2) := by simp [spB, p2]
        simp only [g1, h_one, c_one, hv, r1, r2, hz2, p2', hln, hap, cuEta, (by decide : (24 : Int) ≤ 200), (by decide : (40 : Int) ≤ 200), u1, ↓SP, SQ, Gam.add, stepM, callC, argC, lendO, nmBy, nmC, likeL, likeB, plainOb, offs, exL, X, F, trP, trO, stepD, stepW, newA, SV.tr, SV.trL, fz, allP, Ob.tr, loadA, cellsA, SV.cells, binA, binI, eqOut, isSl, isPt, natOf, callee, snap, SV.refsL, SV.refs, thaw, fzAll, loA, hiA, elemOf, partsA, buildA, putCells, ↓reduceIte, reduceCtorEq, okCell, Nat.reduceAdd, Nat.reduceEqDiff, Nat.reduceSub, Nat.reduceMul, Nat.reduceLeDiff, Nat.reduceLT, Nat.reduceBEq, PV.scal, PV.scalL, SV.scal, SV.scalL, Ob.scal, PV.isCell, pure', resO]
        rw [hB]
        refine finA_gen [7] trivial (by simp [retA, rvA, mkE_cons, mk_nil, mkO_cons, mkO_nil, loadA, SV.tr, SV.trL, nmF, rn_nil, rn_cons1, rn_cons2, plainOb, SV.refsL, SV.refs, Ob.refs, X, F, List.range_succ, mkO, setO_mk]; rfl) ?_ ?_ ?_ ?_ ?_ ?_ ?_ <;> simp [retA, rvA, mkE_cons, mk_nil, mkO_cons, mkO_nil, loadA, SV.tr, SV.trL, nmF, rn_nil, rn_cons1, rn_cons2, plainOb, SV.refsL, SV.refs, Ob.refs, X, F, List.range_succ, mkO, setO_mk]
end Go.Proofs.Ytihpfhdkjlphhaa.Pam
