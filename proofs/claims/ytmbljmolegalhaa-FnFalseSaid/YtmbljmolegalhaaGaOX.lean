/- A part of the proof that stands in this folder: a small machine whose steps are shown to be the steps of the model, or walks of functions by it. No condition of its own. -/
import Derived.Test.YtmbljmolegalhaaGaOW
set_option linter.unusedVariables false
set_option linter.unusedSimpArgs false
namespace Go.Proofs.Ytmbljmolegalhaa.Pam
open Go
def a_vBig : AFn := ⟨1, 
  .seq (.reg [⟨some 2, none, .d (.mv (.c (.bool false)))⟩])
  (.seq (.reg [⟨some 3, none, .d (.mv (.t 0))⟩,
    ⟨some 4, none, .d (.len (.t 3))⟩,
    ⟨some 5, none, .d (.bin .arith .gtr (.t 4) (.c (.int .i64 65536)))⟩,
    ⟨some 2, none, .d (.mv (.t 5))⟩])
  (.ret)), [.tmp 2]⟩
def n_vBig : Nat → Option Ann := fun _ => none
abbrev k_vBig : List Nat := [0, 2]
abbrev o_vBig : List Nat := []
def c_vBig : Con := pure' fun
  | [.p v] => match slU v with
    | some l => some (.p (.bool (decide (l.length > 65536))), [])
    | none => none
  | _ => none
theorem slU_len' {v : PV} {l : List Int} (h : slU v = some l) (O : Objs) : lenA O (.p v) = some l.length := by
  rcases (slU_out h).1 with rfl | ⟨rfl, rfl⟩
  · simp [lenA, u8s_len]
  · simp [lenA]
theorem s_vBig {P : Program} (hm : P.follows .mixedOrders = true) {Γ : Gam} (hΓ : GS P Γ) {n : FuncId} (is : Is P n a_vBig)  : Says P n c_vBig := by
  refine Says.pure fun args r fs h => ?_
  split at h
  case h_2 => cases h
  rename_i v
  split at h
  case h_2 => cases h
  rename_i l hv
  simp only [Option.some.injEq, Prod.mk.injEq] at h
  obtain ⟨rfl, rfl⟩ := h
  have hlv := slU_len' hv
  by_cases hk : l.length > 65536
  · have h2 : (l.length : Int) > 65536 := by omega
    refine is.go hm hΓ k_vBig o_vBig (by simp [a_vBig]) ?_
    simp only [a_vBig, hlv, h2, List.zipIdx_cons, List.zipIdx_nil, ↓SP, SQ, Gam.add, stepM, callC, argC, lendO, nmBy, nmC, likeL, likeB, plainOb, offs, exL, X, F, trP, trO, stepD, stepW, newA, SV.tr, SV.trL, fz, allP, Ob.tr, loadA, cellsA, SV.cells, binA, binI, eqOut, isSl, isPt, natOf, callee, snap, SV.refsL, SV.refs, thaw, fzAll, loA, hiA, elemOf, partsA, buildA, putCells, ↓reduceIte, reduceCtorEq, okCell, Nat.reduceAdd, Nat.reduceEqDiff, Nat.reduceSub, Nat.reduceMul, Nat.reduceLeDiff, Nat.reduceLT, Nat.reduceBEq, PV.scal, PV.scalL, SV.scal, SV.scalL, Ob.scal, PV.isCell, pure', resO]
    exact finA_val (by simp [hk, retA, rvA, mkE_cons, mk_nil, mkO_cons, mkO_nil, loadA, SV.tr, SV.trL, nmF, rn_nil, rn_cons1, rn_cons2, plainOb, SV.refsL, SV.refs, Ob.refs, X, F, List.range_succ, mkO, setO_mk]) (by simp [SV.tr, SV.trL])
  · have h2 : ¬ (l.length : Int) > 65536 := by omega
    refine is.go hm hΓ k_vBig o_vBig (by simp [a_vBig]) ?_
    simp only [a_vBig, hlv, h2, List.zipIdx_cons, List.zipIdx_nil, ↓SP, SQ, Gam.add, stepM, callC, argC, lendO, nmBy, nmC, likeL, likeB, plainOb, offs, exL, X, F, trP, trO, stepD, stepW, newA, SV.tr, SV.trL, fz, allP, Ob.tr, loadA, cellsA, SV.cells, binA, binI, eqOut, isSl, isPt, natOf, callee, snap, SV.refsL, SV.refs, thaw, fzAll, loA, hiA, elemOf, partsA, buildA, putCells, ↓reduceIte, reduceCtorEq, okCell, Nat.reduceAdd, Nat.reduceEqDiff, Nat.reduceSub, Nat.reduceMul, Nat.reduceLeDiff, Nat.reduceLT, Nat.reduceBEq, PV.scal, PV.scalL, SV.scal, SV.scalL, Ob.scal, PV.isCell, pure', resO]
    exact finA_val (by simp [hk, retA, rvA, mkE_cons, mk_nil, mkO_cons, mkO_nil, loadA, SV.tr, SV.trL, nmF, rn_nil, rn_cons1, rn_cons2, plainOb, SV.refsL, SV.refs, Ob.refs, X, F, List.range_succ, mkO, setO_mk]) (by simp [SV.tr, SV.trL])
theorem key_ag (a b : Int) : keyA (some 2) (.ag [.p (.int .i64 a), .p (.int .i64 b)]) = some (.agg [.int .i64 a, .int .i64 b]) := by simp [keyA, elemOf, allP, PV.isInt]
theorem key_eq (a b c d : Int) : keyEq (.agg [.int .i64 a, .int .i64 b]) (.agg [.int .i64 c, .int .i64 d]) = some (a == c && b == d) := by
  simp only [keyEq, scalEqL, scalEq, if_true]
  cases (a == c) <;> cases (b == d) <;> rfl
def a_s_IsDoubt (f_l7Good : FuncId) : AFn := ⟨1, 
  .seq (.reg [⟨some 1, none, .w (.box 2 (.t 0))⟩,
    ⟨some 2, none, .d (.mv (.c (.bool false)))⟩])
  (.seq (.reg [⟨some 3, none, .d (.load true 2 (.t 1))⟩,
    ⟨some 4, none, .d (.call (.f f_l7Good) [(.t 3)])⟩,
    ⟨some 2, none, .d (.mv (.t 4))⟩])
  (.ret)), [.tmp 2]⟩
def n_s_IsDoubt : Nat → Option Ann := fun _ => none
abbrev k_s_IsDoubt : List Nat := [0, 1, 2]
abbrev o_s_IsDoubt : List Nat := [1]
def c_s_IsDoubt : Con := pure' fun
  | [.p (.agg [.int .i64 s, .int .i64 o])] => if (True) then some (.p (.bool (isD s o)), []) else none
  | _ => none
theorem s_s_IsDoubt {P : Program} (hm : P.follows .mixedOrders = true) {Γ : Gam} (hΓ : GS P Γ) {n : FuncId} {f_l7Good : FuncId} (is : Is P n (a_s_IsDoubt f_l7Good)) (h_l7Good : Γ f_l7Good = c_IsDoubt)  : Says P n c_s_IsDoubt := by
  refine Says.pure fun args r fs h => ?_
  split at h
  case h_2 => cases h
  rename_i s o
  split at h
  case isFalse => cases h
  rename_i hc
  simp only [ofI_ints, ofBo_bools, ofAs_asks, Option.some.injEq, Prod.mk.injEq] at h hc
  obtain ⟨rfl, rfl⟩ := h
  refine is.go hm hΓ k_s_IsDoubt o_s_IsDoubt (by simp [a_s_IsDoubt]) ?_
  simp only [a_s_IsDoubt, h_l7Good, c_IsDoubt, List.zipIdx_cons, List.zipIdx_nil, ↓SP, SQ, Gam.add, stepM, callC, argC, lendO, nmBy, nmC, likeL, likeB, plainOb, offs, exL, X, F, trP, trO, stepD, stepW, newA, SV.tr, SV.trL, fz, allP, Ob.tr, loadA, cellsA, SV.cells, binA, binI, eqOut, isSl, isPt, natOf, callee, snap, SV.refsL, SV.refs, thaw, fzAll, loA, hiA, elemOf, partsA, buildA, putCells, ↓reduceIte, reduceCtorEq, okCell, Nat.reduceAdd, Nat.reduceEqDiff, Nat.reduceSub, Nat.reduceMul, Nat.reduceLeDiff, Nat.reduceLT, Nat.reduceBEq, PV.scal, PV.scalL, SV.scal, SV.scalL, Ob.scal, PV.isCell, pure', resO]
  exact finA_val (by simp [retA, rvA, mkE_cons, mk_nil, mkO_cons, mkO_nil, loadA, SV.tr, SV.trL, nmF, rn_nil, rn_cons1, rn_cons2, plainOb, SV.refsL, SV.refs, Ob.refs, X, F, List.range_succ, mkO, setO_mk]) (by simp [SV.tr, SV.trL])
theorem rfV_out (s o a b : Int) : rfV s o a b = (0, false) ∨ ∃ j, j < 6 ∧ rfV s o a b = (((2 * j + 1 : Nat) : Int), true) ∧ isD s o = true ∧ isD a b = true ∧ rfP s.toNat o.toNat a.toNat b.toNat j = true ∧ ∀ j', j' < j → rfP s.toNat o.toNat a.toNat b.toNat j' = false := by
  unfold rfV
  cases h1 : isD s o with
  | false => left; simp
  | true =>
    cases h2 : isD a b with
    | false => left; simp
    | true =>
      simp only [Bool.and_self, if_true]
      cases hf : rfF s.toNat o.toNat a.toNat b.toNat with
      | none => left; rfl
      | some j =>
        right
        unfold rfF at hf
        obtain ⟨hp, i, hi, he, hn⟩ := List.find?_eq_some_iff_getElem.1 hf
        simp only [List.length_range] at hi
        simp only [List.getElem_range] at he
        subst he
        refine ⟨i, hi, rfl, trivial, trivial, hp, fun j' hj' => ?_⟩
        have := hn j' hj'
        simpa using this
theorem ca_rd {s o : Int} {j : Nat} (hj : j < 6) (hd : isD s o = true) : vM ((2 * j + 1 : Nat) : Int) s o = true ∧ caV ((2 * j + 1 : Nat) : Int) s o = (((rd (inB s.toNat o.toNat (2 * j + 1) (j + 1)) (o.toNat ^ (2 * j + 1))).1 : Int), ((rd (inB s.toNat o.toNat (2 * j + 1) (j + 1)) (o.toNat ^ (2 * j + 1))).2 : Int)) := by
  have hv : vM ((2 * j + 1 : Nat) : Int) s o = true := by simp only [vM, hd, dec_t (show (1 : Int) ≤ ((2 * j + 1 : Nat) : Int) by omega), dec_t (show ((2 * j + 1 : Nat) : Int) ≤ 12 by omega), Bool.and_self]
  refine ⟨hv, ?_⟩
  have hh : ((2 * j + 1 : Nat) - 1) / 2 + 1 = j + 1 := by omega
  simp only [caV, hv, if_true, cuF_rd, Int.toNat_natCast, hh]
theorem ca_b {s o : Int} {j : Nat} (hj : j < 6) (hd : isD s o = true) : (((rd (inB s.toNat o.toNat (2 * j + 1) (j + 1)) (o.toNat ^ (2 * j + 1))).1 : Int) ≤ 1000000000000) ∧ (1 ≤ ((rd (inB s.toNat o.toNat (2 * j + 1) (j + 1)) (o.toNat ^ (2 * j + 1))).2 : Int)) ∧ (((rd (inB s.toNat o.toNat (2 * j + 1) (j + 1)) (o.toNat ^ (2 * j + 1))).2 : Int) ≤ 1000000000000) := by
  obtain ⟨d1, d2, d3, d4⟩ := isD_out hd
  have hB := inB_10 hd (n := 2 * j + 1) (k := j + 1) (by omega) (by omega)
  have hp := pow_le (b := o.toNat) (e := 2 * j + 1) (by omega) (by omega)
  have hpos : 0 < o.toNat ^ (2 * j + 1) := Nat.pow_pos (by omega)
  obtain ⟨r1, r2, r3⟩ := rd_bd (inB s.toNat o.toNat (2 * j + 1) (j + 1)) (o.toNat ^ (2 * j + 1)) hpos
  omega
theorem wi_half {m s o : Int} (hvm : vM m s o = true) : vD m (((m.toNat - 1) / 2 : Nat) : Int) s o = true ∧ cwV m (((m.toNat - 1) / 2 : Nat) : Int) s o = caV m s o := by
  obtain ⟨hd, g1, g2⟩ := vM_out hvm
  have hv : vD m (((m.toNat - 1) / 2 : Nat) : Int) s o = true := by
    simp only [vD, hd, dec_t (show 0 ≤ m by omega), dec_t g2, dec_t (show (0 : Int) ≤ (((m.toNat - 1) / 2 : Nat) : Int) by omega), dec_t (show (((m.toNat - 1) / 2 : Nat) : Int) ≤ m by omega), Bool.and_self]
  exact ⟨hv, by simp only [cwV, hv, caV, hvm, if_true, Int.toNat_natCast]⟩
theorem nn2_c (p : Nat × Nat) : nn2 (p.1 : Int) (p.2 : Int) = p := rfl
theorem cf_rd {m s o : Int} {i : Nat} (hv : vD m (i : Int) s o = true) : cfV m (i : Int) s o = (((cS s.toNat o.toNat m.toNat i).1 : Int), ((cS s.toNat o.toNat m.toNat i).2 : Int)) := by
  simp only [cfV, hv, if_true, cuF_rd, Int.toNat_natCast]; rfl
theorem cw_rd {m k s o : Int} (hv : vD m k s o = true) : cwV m k s o = (((sS s.toNat o.toNat m.toNat (k.toNat + 1)).1 : Int), ((sS s.toNat o.toNat m.toNat (k.toNat + 1)).2 : Int)) := by
  simp only [cwV, hv, if_true, cuF_rd]; rfl
def a_x_False (f_vBig : FuncId) (f_DrawChanceFalse : FuncId) (f_ChanceFalse : FuncId) (f_s_ChanceFalse : FuncId) (f_ChanceWithin : FuncId) (f_s_ChanceWithin : FuncId) (f_MeanFalse : FuncId) (f_s_MeanFalse : FuncId) (f_ChanceMajority : FuncId) (f_s_ChanceMajority : FuncId) (f_vCut : FuncId) (f_DrawRepeatsFor : FuncId) (f_RepeatsFor : FuncId) (f_s_RepeatsFor : FuncId) (f_IsDoubt : FuncId) (f_s_IsDoubt : FuncId) (f_vPlus : FuncId) (f_vLess : FuncId) : AFn := ⟨1, 
  .seq (.reg [⟨some 2, none, .d (.mv (.c (.bool false)))⟩])
  (.seq (.seq (.reg [⟨some 39, none, .d (.mv (.t 0))⟩,
    ⟨some 40, none, .d (.call (.f f_vBig) [(.t 39)])⟩])
  (.cond (.t 40) (.seq (.reg [⟨some 2, none, .d (.mv (.c (.bool true)))⟩])
   (.ret)) (.skip)))
  (.seq (.reg [⟨some 42, none, .d (.mv (.t 0))⟩,
    ⟨some 43, none, .d (.call (.f f_DrawChanceFalse) [(.t 42)])⟩,
    ⟨some 41, none, .d (.mv (.t 43))⟩,
    ⟨some 44, none, .d (.extract (.t 41) 0)⟩,
    ⟨some 45, none, .d (.extract (.t 41) 1)⟩,
    ⟨some 46, none, .d (.extract (.t 41) 2)⟩,
    ⟨some 5, none, .w (.alloc [.int .i64 0, .int .i64 0])⟩,
    ⟨some 3, none, .d (.mv (.t 44))⟩,
    ⟨some 4, none, .d (.mv (.t 45))⟩,
    ⟨none, none, .w (.store 2 (.t 5) (.t 46))⟩])
  (.seq (.reg [⟨some 48, none, .d (.mv (.t 3))⟩,
    ⟨some 49, none, .d (.mv (.t 4))⟩,
    ⟨some 50, none, .d (.load true 2 (.t 5))⟩,
    ⟨some 51, none, .d (.call (.f f_ChanceFalse) [(.t 48), (.t 49), (.t 50)])⟩,
    ⟨some 47, none, .d (.mv (.t 51))⟩,
    ⟨some 52, none, .d (.extract (.t 47) 0)⟩,
    ⟨some 53, none, .d (.extract (.t 47) 1)⟩,
    ⟨some 6, none, .w (.alloc [.int .i64 0, .int .i64 0])⟩,
    ⟨none, none, .w (.store 2 (.t 6) (.t 52))⟩,
    ⟨some 7, none, .d (.mv (.t 53))⟩])
  (.seq (.reg [⟨some 55, none, .d (.mv (.t 3))⟩,
    ⟨some 56, none, .d (.mv (.t 4))⟩,
    ⟨some 57, none, .d (.load true 2 (.t 5))⟩,
    ⟨some 58, none, .d (.call (.f f_s_ChanceFalse) [(.t 55), (.t 56), (.t 57)])⟩,
    ⟨some 54, none, .d (.mv (.t 58))⟩,
    ⟨some 59, none, .d (.extract (.t 54) 0)⟩,
    ⟨some 60, none, .d (.extract (.t 54) 1)⟩,
    ⟨some 8, none, .w (.alloc [.int .i64 0, .int .i64 0])⟩,
    ⟨none, none, .w (.store 2 (.t 8) (.t 59))⟩,
    ⟨some 9, none, .d (.mv (.t 60))⟩])
  (.seq (.reg [⟨some 62, none, .d (.mv (.t 3))⟩,
    ⟨some 63, none, .d (.mv (.t 4))⟩,
    ⟨some 64, none, .d (.load true 2 (.t 5))⟩,
    ⟨some 65, none, .d (.call (.f f_ChanceWithin) [(.t 62), (.t 63), (.t 64)])⟩,
    ⟨some 61, none, .d (.mv (.t 65))⟩,
    ⟨some 66, none, .d (.extract (.t 61) 0)⟩,
    ⟨some 67, none, .d (.extract (.t 61) 1)⟩,
    ⟨some 10, none, .w (.alloc [.int .i64 0, .int .i64 0])⟩,
    ⟨none, none, .w (.store 2 (.t 10) (.t 66))⟩,
    ⟨some 11, none, .d (.mv (.t 67))⟩])
  (.seq (.reg [⟨some 69, none, .d (.mv (.t 3))⟩,
    ⟨some 70, none, .d (.mv (.t 4))⟩,
    ⟨some 71, none, .d (.load true 2 (.t 5))⟩,
    ⟨some 72, none, .d (.call (.f f_s_ChanceWithin) [(.t 69), (.t 70), (.t 71)])⟩,
    ⟨some 68, none, .d (.mv (.t 72))⟩,
    ⟨some 73, none, .d (.extract (.t 68) 0)⟩,
    ⟨some 74, none, .d (.extract (.t 68) 1)⟩,
    ⟨some 12, none, .w (.alloc [.int .i64 0, .int .i64 0])⟩,
    ⟨none, none, .w (.store 2 (.t 12) (.t 73))⟩,
    ⟨some 13, none, .d (.mv (.t 74))⟩])
  (.seq (.reg [⟨some 76, none, .d (.mv (.t 3))⟩,
    ⟨some 77, none, .d (.load true 2 (.t 5))⟩,
    ⟨some 78, none, .d (.call (.f f_MeanFalse) [(.t 76), (.t 77)])⟩,
    ⟨some 75, none, .d (.mv (.t 78))⟩,
    ⟨some 79, none, .d (.extract (.t 75) 0)⟩,
    ⟨some 80, none, .d (.extract (.t 75) 1)⟩,
    ⟨some 14, none, .w (.alloc [.int .i64 0, .int .i64 0])⟩,
    ⟨none, none, .w (.store 2 (.t 14) (.t 79))⟩,
    ⟨some 15, none, .d (.mv (.t 80))⟩])
  (.seq (.reg [⟨some 82, none, .d (.mv (.t 3))⟩,
    ⟨some 83, none, .d (.load true 2 (.t 5))⟩,
    ⟨some 84, none, .d (.call (.f f_s_MeanFalse) [(.t 82), (.t 83)])⟩,
    ⟨some 81, none, .d (.mv (.t 84))⟩,
    ⟨some 85, none, .d (.extract (.t 81) 0)⟩,
    ⟨some 86, none, .d (.extract (.t 81) 1)⟩,
    ⟨some 16, none, .w (.alloc [.int .i64 0, .int .i64 0])⟩,
    ⟨none, none, .w (.store 2 (.t 16) (.t 85))⟩,
    ⟨some 17, none, .d (.mv (.t 86))⟩])
  (.seq (.reg [⟨some 88, none, .d (.mv (.t 3))⟩,
    ⟨some 89, none, .d (.load true 2 (.t 5))⟩,
    ⟨some 90, none, .d (.call (.f f_ChanceMajority) [(.t 88), (.t 89)])⟩,
    ⟨some 87, none, .d (.mv (.t 90))⟩,
    ⟨some 91, none, .d (.extract (.t 87) 0)⟩,
    ⟨some 92, none, .d (.extract (.t 87) 1)⟩,
    ⟨some 18, none, .w (.alloc [.int .i64 0, .int .i64 0])⟩,
    ⟨none, none, .w (.store 2 (.t 18) (.t 91))⟩,
    ⟨some 19, none, .d (.mv (.t 92))⟩])
  (.seq (.reg [⟨some 94, none, .d (.mv (.t 3))⟩,
    ⟨some 95, none, .d (.load true 2 (.t 5))⟩,
    ⟨some 96, none, .d (.call (.f f_s_ChanceMajority) [(.t 94), (.t 95)])⟩,
    ⟨some 93, none, .d (.mv (.t 96))⟩,
    ⟨some 97, none, .d (.extract (.t 93) 0)⟩,
    ⟨some 98, none, .d (.extract (.t 93) 1)⟩,
    ⟨some 20, none, .w (.alloc [.int .i64 0, .int .i64 0])⟩,
    ⟨none, none, .w (.store 2 (.t 20) (.t 97))⟩,
    ⟨some 21, none, .d (.mv (.t 98))⟩])
  (.seq (.reg [⟨some 100, none, .d (.mv (.t 0))⟩,
    ⟨some 101, none, .d (.call (.f f_vCut) [(.t 100), (.c (.int .i64 1))])⟩,
    ⟨some 102, none, .d (.call (.f f_DrawRepeatsFor) [(.t 101)])⟩,
    ⟨some 99, none, .d (.mv (.t 102))⟩,
    ⟨some 103, none, .d (.extract (.t 99) 0)⟩,
    ⟨some 104, none, .d (.extract (.t 99) 1)⟩,
    ⟨some 22, none, .w (.alloc [.int .i64 0, .int .i64 0])⟩,
    ⟨some 23, none, .w (.alloc [.int .i64 0, .int .i64 0])⟩,
    ⟨none, none, .w (.store 2 (.t 22) (.t 103))⟩,
    ⟨none, none, .w (.store 2 (.t 23) (.t 104))⟩])
  (.seq (.reg [⟨some 106, none, .d (.load true 2 (.t 22))⟩,
    ⟨some 107, none, .d (.load true 2 (.t 23))⟩,
    ⟨some 108, none, .d (.call (.f f_RepeatsFor) [(.t 106), (.t 107)])⟩,
    ⟨some 105, none, .d (.mv (.t 108))⟩,
    ⟨some 109, none, .d (.extract (.t 105) 0)⟩,
    ⟨some 110, none, .d (.extract (.t 105) 1)⟩,
    ⟨some 24, none, .d (.mv (.t 109))⟩,
    ⟨some 25, none, .d (.mv (.t 110))⟩])
  (.seq (.reg [⟨some 112, none, .d (.load true 2 (.t 22))⟩,
    ⟨some 113, none, .d (.load true 2 (.t 23))⟩,
    ⟨some 114, none, .d (.call (.f f_s_RepeatsFor) [(.t 112), (.t 113)])⟩,
    ⟨some 111, none, .d (.mv (.t 114))⟩,
    ⟨some 115, none, .d (.extract (.t 111) 0)⟩,
    ⟨some 116, none, .d (.extract (.t 111) 1)⟩,
    ⟨some 26, none, .d (.mv (.t 115))⟩,
    ⟨some 27, none, .d (.mv (.t 116))⟩])
  (.seq (.seq (.dreg [] [([], ⟨some 117, none, .d (.load true 2 (.t 6))⟩),
    ([], ⟨some 118, none, .d (.load true 2 (.t 8))⟩),
    ([], ⟨some 119, none, .d (.bin (.arr 2) .neq (.t 117) (.t 118))⟩),
    ([], ⟨some 120, none, .d (.mv (.t 119))⟩),
    ([], ⟨some 121, some (120, false), .d (.mv (.t 7))⟩),
    ([], ⟨some 122, some (120, false), .d (.mv (.t 9))⟩),
    ([], ⟨some 123, some (120, false), .d (.bin .bool .neq (.t 121) (.t 122))⟩),
    ([], ⟨some 124, none, .d (.pick (.t 120) (.c (.bool true)) (.t 123))⟩),
    ([], ⟨some 125, none, .d (.mv (.t 124))⟩),
    ([], ⟨some 126, some (125, false), .d (.load true 2 (.t 10))⟩),
    ([], ⟨some 127, some (125, false), .d (.load true 2 (.t 12))⟩),
    ([], ⟨some 128, some (125, false), .d (.bin (.arr 2) .neq (.t 126) (.t 127))⟩),
    ([], ⟨some 129, none, .d (.pick (.t 125) (.c (.bool true)) (.t 128))⟩),
    ([], ⟨some 130, none, .d (.mv (.t 129))⟩),
    ([], ⟨some 131, some (130, false), .d (.mv (.t 11))⟩),
    ([], ⟨some 132, some (130, false), .d (.mv (.t 13))⟩),
    ([], ⟨some 133, some (130, false), .d (.bin .bool .neq (.t 131) (.t 132))⟩),
    ([], ⟨some 134, none, .d (.pick (.t 130) (.c (.bool true)) (.t 133))⟩),
    ([], ⟨some 135, none, .d (.mv (.t 134))⟩),
    ([], ⟨some 136, some (135, false), .d (.load true 2 (.t 14))⟩),
    ([], ⟨some 137, some (135, false), .d (.load true 2 (.t 16))⟩),
    ([], ⟨some 138, some (135, false), .d (.bin (.arr 2) .neq (.t 136) (.t 137))⟩),
    ([], ⟨some 139, none, .d (.pick (.t 135) (.c (.bool true)) (.t 138))⟩),
    ([], ⟨some 140, none, .d (.mv (.t 139))⟩),
    ([], ⟨some 141, some (140, false), .d (.mv (.t 15))⟩),
    ([], ⟨some 142, some (140, false), .d (.mv (.t 17))⟩),
    ([], ⟨some 143, some (140, false), .d (.bin .bool .neq (.t 141) (.t 142))⟩),
    ([], ⟨some 144, none, .d (.pick (.t 140) (.c (.bool true)) (.t 143))⟩),
    ([], ⟨some 145, none, .d (.mv (.t 144))⟩),
    ([], ⟨some 146, some (145, false), .d (.load true 2 (.t 18))⟩),
    ([], ⟨some 147, some (145, false), .d (.load true 2 (.t 20))⟩),
    ([], ⟨some 148, some (145, false), .d (.bin (.arr 2) .neq (.t 146) (.t 147))⟩),
    ([], ⟨some 149, none, .d (.pick (.t 145) (.c (.bool true)) (.t 148))⟩),
    ([], ⟨some 150, none, .d (.mv (.t 149))⟩),
    ([], ⟨some 151, some (150, false), .d (.mv (.t 19))⟩),
    ([], ⟨some 152, some (150, false), .d (.mv (.t 21))⟩),
    ([], ⟨some 153, some (150, false), .d (.bin .bool .neq (.t 151) (.t 152))⟩),
    ([], ⟨some 154, none, .d (.pick (.t 150) (.c (.bool true)) (.t 153))⟩),
    ([], ⟨some 155, none, .d (.mv (.t 154))⟩),
    ([], ⟨some 156, some (155, false), .d (.mv (.t 24))⟩),
    ([], ⟨some 157, some (155, false), .d (.mv (.t 26))⟩),
    ([], ⟨some 158, some (155, false), .d (.bin .arith .neq (.t 156) (.t 157))⟩),
    ([], ⟨some 159, none, .d (.pick (.t 155) (.c (.bool true)) (.t 158))⟩),
    ([], ⟨some 160, none, .d (.mv (.t 159))⟩),
    ([], ⟨some 161, some (160, false), .d (.mv (.t 25))⟩),
    ([], ⟨some 162, some (160, false), .d (.mv (.t 27))⟩),
    ([], ⟨some 163, some (160, false), .d (.bin .bool .neq (.t 161) (.t 162))⟩),
    ([], ⟨some 164, none, .d (.pick (.t 160) (.c (.bool true)) (.t 163))⟩),
    ([], ⟨some 165, none, .d (.mv (.t 164))⟩),
    ([], ⟨some 166, some (165, false), .d (.load true 2 (.t 5))⟩),
    ([], ⟨some 167, some (165, false), .d (.call (.f f_IsDoubt) [(.t 166)])⟩),
    ([], ⟨some 168, some (165, false), .d (.load true 2 (.t 5))⟩),
    ([], ⟨some 169, some (165, false), .d (.call (.f f_s_IsDoubt) [(.t 168)])⟩),
    ([], ⟨some 170, some (165, false), .d (.bin .bool .neq (.t 167) (.t 169))⟩),
    ([], ⟨some 171, none, .d (.pick (.t 165) (.c (.bool true)) (.t 170))⟩),
    ([], ⟨some 172, none, .d (.mv (.t 171))⟩),
    ([], ⟨some 173, some (172, false), .d (.mv (.t 7))⟩),
    ([], ⟨some 174, some (172, false), .d (.mv (.t 11))⟩)] [⟨some 175, some (172, false), .d (.bin .bool .neq (.t 173) (.t 174))⟩,
    ⟨some 176, none, .d (.pick (.t 172) (.c (.bool true)) (.t 175))⟩,
    ⟨some 177, none, .d (.mv (.t 176))⟩,
    ⟨some 178, some (177, false), .d (.mv (.t 7))⟩,
    ⟨some 179, some (177, false), .d (.mv (.t 178))⟩,
    ⟨some 180, some (179, true), .d (.mv (.t 15))⟩,
    ⟨some 181, some (179, true), .d (.not (.t 180))⟩,
    ⟨some 182, some (177, false), .d (.pick (.t 179) (.t 181) (.c (.bool false)))⟩,
    ⟨some 183, none, .d (.pick (.t 177) (.c (.bool true)) (.t 182))⟩])
  (.cond (.t 183) (.seq (.reg [⟨some 2, none, .d (.mv (.c (.bool false)))⟩])
   (.ret)) (.skip)))
  (.seq (.seq (.reg [⟨some 184, none, .d (.mv (.t 7))⟩])
  (.cond (.t 184) (.seq (.reg [⟨some 185, none, .d (.build [.int .i64 0, .int .i64 0] [(0, 1, (.c (.int .i64 0))), (1, 1, (.c (.int .i64 1)))])⟩,
     ⟨some 186, none, .d (.build [.int .i64 0, .int .i64 0] [(0, 1, (.c (.int .i64 0))), (1, 1, (.c (.int .i64 1)))])⟩,
     ⟨some 28, none, .w (.alloc [.int .i64 0, .int .i64 0])⟩,
     ⟨some 29, none, .w (.alloc [.int .i64 0, .int .i64 0])⟩,
     ⟨none, none, .w (.store 2 (.t 28) (.t 185))⟩,
     ⟨none, none, .w (.store 2 (.t 29) (.t 186))⟩])
   (.seq (.seq (.reg [⟨some 30, none, .d (.mv (.c (.int .i64 0)))⟩])
   (.block 0 (.loop (.seq (.seq (.reg [⟨some 187, none, .d (.mv (.t 30))⟩,
       ⟨some 188, none, .d (.mv (.t 3))⟩,
       ⟨some 189, none, .d (.bin .arith .leq (.t 187) (.t 188))⟩])
     (.cond (.t 189) (.skip) (.exit 0)))
     (.seq (.block 1 (.seq (.reg [⟨some 193, none, .d (.mv (.t 3))⟩,
        ⟨some 194, none, .d (.mv (.t 30))⟩,
        ⟨some 195, none, .d (.load true 2 (.t 5))⟩,
        ⟨some 196, none, .d (.call (.f f_ChanceFalse) [(.t 193), (.t 194), (.t 195)])⟩,
        ⟨some 192, none, .d (.mv (.t 196))⟩,
        ⟨some 197, none, .d (.extract (.t 192) 0)⟩,
        ⟨some 198, none, .d (.extract (.t 192) 1)⟩,
        ⟨some 31, none, .w (.alloc [.int .i64 0, .int .i64 0])⟩,
        ⟨none, none, .w (.store 2 (.t 31) (.t 197))⟩,
        ⟨some 32, none, .d (.mv (.t 198))⟩])
      (.seq (.seq (.reg [⟨some 199, none, .d (.mv (.t 32))⟩,
        ⟨some 200, none, .d (.not (.t 199))⟩])
      (.cond (.t 200) (.seq (.reg [⟨some 2, none, .d (.mv (.c (.bool false)))⟩])
       (.ret)) (.skip)))
      (.seq (.seq (.reg [⟨some 201, none, .d (.mv (.t 30))⟩,
        ⟨some 202, none, .d (.mv (.t 4))⟩,
        ⟨some 203, none, .d (.bin .arith .leq (.t 201) (.t 202))⟩])
      (.cond (.t 203) (.reg [⟨some 204, none, .d (.load true 2 (.t 28))⟩,
         ⟨some 205, none, .d (.load true 2 (.t 31))⟩,
         ⟨some 206, none, .d (.call (.f f_vPlus) [(.t 204), (.t 205)])⟩,
         ⟨none, none, .w (.store 2 (.t 28) (.t 206))⟩]) (.skip)))
      (.reg [⟨some 207, none, .d (.load true 2 (.t 29))⟩,
        ⟨some 208, none, .d (.load true 2 (.t 31))⟩,
        ⟨some 209, none, .d (.call (.f f_vPlus) [(.t 207), (.t 208)])⟩,
        ⟨none, none, .w (.store 2 (.t 29) (.t 209))⟩])))))
     (.reg [⟨some 190, none, .d (.mv (.t 30))⟩,
       ⟨some 191, none, .d (.bin .arith .add (.t 190) (.c (.int .i64 1)))⟩,
       ⟨some 30, none, .d (.mv (.t 191))⟩]))))))
   (.seq (.reg [⟨some 210, none, .d (.load true 2 (.t 28))⟩,
     ⟨some 211, none, .d (.load true 2 (.t 10))⟩,
     ⟨some 212, none, .d (.bin (.arr 2) .neq (.t 210) (.t 211))⟩,
     ⟨some 213, none, .d (.mv (.t 212))⟩,
     ⟨some 214, some (213, false), .d (.load true 2 (.t 29))⟩,
     ⟨some 215, some (213, false), .d (.build [.int .i64 0, .int .i64 0] [(0, 1, (.c (.int .i64 1))), (1, 1, (.c (.int .i64 1)))])⟩,
     ⟨some 216, some (213, false), .d (.bin (.arr 2) .neq (.t 214) (.t 215))⟩,
     ⟨some 217, none, .d (.pick (.t 213) (.c (.bool true)) (.t 216))⟩])
   (.cond (.t 217) (.seq (.reg [⟨some 2, none, .d (.mv (.c (.bool false)))⟩])
    (.ret)) (.skip))))) (.skip)))
  (.seq (.seq (.reg [⟨some 218, none, .d (.mv (.t 19))⟩])
  (.cond (.t 218) (.seq (.reg [⟨some 220, none, .d (.mv (.t 3))⟩,
     ⟨some 221, none, .d (.mv (.t 3))⟩,
     ⟨some 222, none, .d (.bin .arith .sub (.t 221) (.c (.int .i64 1)))⟩,
     ⟨some 223, none, .d (.bin .arith .quo (.t 222) (.c (.int .i64 2)))⟩,
     ⟨some 224, none, .d (.load true 2 (.t 5))⟩,
     ⟨some 225, none, .d (.call (.f f_ChanceWithin) [(.t 220), (.t 223), (.t 224)])⟩,
     ⟨some 219, none, .d (.mv (.t 225))⟩,
     ⟨some 226, none, .d (.extract (.t 219) 0)⟩,
     ⟨some 227, none, .d (.extract (.t 219) 1)⟩,
     ⟨some 33, none, .w (.alloc [.int .i64 0, .int .i64 0])⟩,
     ⟨none, none, .w (.store 2 (.t 33) (.t 226))⟩,
     ⟨some 34, none, .d (.mv (.t 227))⟩])
   (.seq (.reg [⟨some 228, none, .d (.mv (.t 34))⟩,
     ⟨some 229, none, .d (.not (.t 228))⟩,
     ⟨some 230, none, .d (.mv (.t 229))⟩,
     ⟨some 231, some (230, false), .d (.load true 2 (.t 33))⟩,
     ⟨some 232, some (230, false), .d (.load true 2 (.t 18))⟩,
     ⟨some 233, some (230, false), .d (.bin (.arr 2) .neq (.t 231) (.t 232))⟩,
     ⟨some 234, none, .d (.pick (.t 230) (.c (.bool true)) (.t 233))⟩])
   (.cond (.t 234) (.seq (.reg [⟨some 2, none, .d (.mv (.c (.bool false)))⟩])
    (.ret)) (.skip)))) (.skip)))
  (.seq (.seq (.reg [⟨some 235, none, .d (.mv (.t 25))⟩])
  (.cond (.t 235) (.seq (.reg [⟨some 237, none, .d (.mv (.t 24))⟩,
     ⟨some 238, none, .d (.load true 2 (.t 22))⟩,
     ⟨some 239, none, .d (.call (.f f_ChanceMajority) [(.t 237), (.t 238)])⟩,
     ⟨some 236, none, .d (.mv (.t 239))⟩,
     ⟨some 240, none, .d (.extract (.t 236) 0)⟩,
     ⟨some 241, none, .d (.extract (.t 236) 1)⟩,
     ⟨some 35, none, .w (.alloc [.int .i64 0, .int .i64 0])⟩,
     ⟨none, none, .w (.store 2 (.t 35) (.t 240))⟩,
     ⟨some 36, none, .d (.mv (.t 241))⟩])
   (.seq (.seq (.reg [⟨some 242, none, .d (.mv (.t 36))⟩,
     ⟨some 243, none, .d (.not (.t 242))⟩,
     ⟨some 244, none, .d (.mv (.t 243))⟩,
     ⟨some 245, some (244, false), .d (.mv (.t 24))⟩,
     ⟨some 246, some (244, false), .d (.bin .arith .rem (.t 245) (.c (.int .i64 2)))⟩,
     ⟨some 247, some (244, false), .d (.bin .arith .eql (.t 246) (.c (.int .i64 0)))⟩,
     ⟨some 248, none, .d (.pick (.t 244) (.c (.bool true)) (.t 247))⟩,
     ⟨some 249, none, .d (.mv (.t 248))⟩,
     ⟨some 250, some (249, false), .d (.load true 2 (.t 35))⟩,
     ⟨some 251, some (249, false), .d (.fa 0 (.t 23))⟩,
     ⟨some 252, some (249, false), .d (.load false 1 (.t 251))⟩,
     ⟨some 253, some (249, false), .d (.fa 1 (.t 23))⟩,
     ⟨some 254, some (249, false), .d (.load false 1 (.t 253))⟩,
     ⟨some 255, some (249, false), .d (.build [.int .i64 0, .int .i64 0] [(0, 1, (.t 252)), (1, 1, (.t 254))])⟩,
     ⟨some 256, some (249, false), .d (.call (.f f_vLess) [(.t 250), (.t 255)])⟩,
     ⟨some 257, none, .d (.pick (.t 249) (.c (.bool true)) (.t 256))⟩])
   (.cond (.t 257) (.seq (.reg [⟨some 2, none, .d (.mv (.c (.bool false)))⟩])
    (.ret)) (.skip)))
   (.seq (.reg [⟨some 258, none, .d (.mv (.t 24))⟩,
     ⟨some 259, none, .d (.bin .arith .gtr (.t 258) (.c (.int .i64 1)))⟩])
   (.cond (.t 259) (.seq (.reg [⟨some 261, none, .d (.mv (.t 24))⟩,
      ⟨some 262, none, .d (.bin .arith .sub (.t 261) (.c (.int .i64 2)))⟩,
      ⟨some 263, none, .d (.load true 2 (.t 22))⟩,
      ⟨some 264, none, .d (.call (.f f_ChanceMajority) [(.t 262), (.t 263)])⟩,
      ⟨some 260, none, .d (.mv (.t 264))⟩,
      ⟨some 265, none, .d (.extract (.t 260) 0)⟩,
      ⟨some 266, none, .d (.extract (.t 260) 1)⟩,
      ⟨some 37, none, .w (.alloc [.int .i64 0, .int .i64 0])⟩,
      ⟨none, none, .w (.store 2 (.t 37) (.t 265))⟩,
      ⟨some 38, none, .d (.mv (.t 266))⟩])
    (.seq (.reg [⟨some 267, none, .d (.mv (.t 38))⟩,
      ⟨some 268, none, .d (.mv (.t 267))⟩,
      ⟨some 269, some (268, true), .d (.load true 2 (.t 37))⟩,
      ⟨some 270, some (268, true), .d (.fa 0 (.t 23))⟩,
      ⟨some 271, some (268, true), .d (.load false 1 (.t 270))⟩,
      ⟨some 272, some (268, true), .d (.fa 1 (.t 23))⟩,
      ⟨some 273, some (268, true), .d (.load false 1 (.t 272))⟩,
      ⟨some 274, some (268, true), .d (.build [.int .i64 0, .int .i64 0] [(0, 1, (.t 271)), (1, 1, (.t 273))])⟩,
      ⟨some 275, some (268, true), .d (.call (.f f_vLess) [(.t 269), (.t 274)])⟩,
      ⟨some 276, none, .d (.pick (.t 268) (.t 275) (.c (.bool false)))⟩,
      ⟨some 2, none, .d (.mv (.t 276))⟩])
    (.ret))) (.skip))))) (.skip)))
  (.seq (.reg [⟨some 2, none, .d (.mv (.c (.bool true)))⟩])
  (.ret))))))))))))))))))), [.tmp 2]⟩
def n_x_False : Nat → Option Ann := fun _ => none
abbrev k_x_False : List Nat := [0, 2, 3, 4, 5, 6, 7, 8, 9, 10, 11, 12, 13, 14, 15, 16, 17, 18, 19, 20, 21, 22, 23, 24, 25, 26, 27, 28, 29, 30, 31, 32, 33, 34, 35, 36, 37, 38, 40, 183, 184, 189, 200, 203, 217, 218, 234, 235, 257, 259]
abbrev o_x_False : List Nat := [5, 6, 8, 10, 12, 14, 16, 18, 20, 22, 23, 28, 29, 31, 33, 35, 37]
def c_x_False : Con := pure' fun
  | [.p v] => match slU v with
    | some l => if l.length ≤ 9223372036854775807 then some (.p (.bool true), []) else none
    | none => none
  | _ => none
set_option maxHeartbeats 16000000 in
set_option maxRecDepth 100000 in
theorem s_x_False {P : Program} (hm : P.follows .mixedOrders = true) {Γ : Gam} (hΓ : GS P Γ) {n : FuncId} {f_vBig : FuncId} {f_DrawChanceFalse : FuncId} {f_ChanceFalse : FuncId} {f_s_ChanceFalse : FuncId} {f_ChanceWithin : FuncId} {f_s_ChanceWithin : FuncId} {f_MeanFalse : FuncId} {f_s_MeanFalse : FuncId} {f_ChanceMajority : FuncId} {f_s_ChanceMajority : FuncId} {f_vCut : FuncId} {f_DrawRepeatsFor : FuncId} {f_RepeatsFor : FuncId} {f_s_RepeatsFor : FuncId} {f_IsDoubt : FuncId} {f_s_IsDoubt : FuncId} {f_vPlus : FuncId} {f_vLess : FuncId} (is : Is P n (a_x_False f_vBig f_DrawChanceFalse f_ChanceFalse f_s_ChanceFalse f_ChanceWithin f_s_ChanceWithin f_MeanFalse f_s_MeanFalse f_ChanceMajority f_s_ChanceMajority f_vCut f_DrawRepeatsFor f_RepeatsFor f_s_RepeatsFor f_IsDoubt f_s_IsDoubt f_vPlus f_vLess)) (h_vBig : Γ f_vBig = c_vBig) (h_DrawChanceFalse : Γ f_DrawChanceFalse = c_DrawChanceFalse) (h_ChanceFalse : Γ f_ChanceFalse = c_ChanceFalse) (h_s_ChanceFalse : Γ f_s_ChanceFalse = c_ChanceFalse) (h_ChanceWithin : Γ f_ChanceWithin = c_ChanceWithin) (h_s_ChanceWithin : Γ f_s_ChanceWithin = c_ChanceWithin) (h_MeanFalse : Γ f_MeanFalse = c_MeanFalse) (h_s_MeanFalse : Γ f_s_MeanFalse = c_MeanFalse) (h_ChanceMajority : Γ f_ChanceMajority = c_ChanceMajority) (h_s_ChanceMajority : Γ f_s_ChanceMajority = c_ChanceMajority) (h_vCut : Γ f_vCut = c_vCut) (h_DrawRepeatsFor : Γ f_DrawRepeatsFor = c_DrawRepeatsFor) (h_RepeatsFor : Γ f_RepeatsFor = c_RepeatsFor) (h_s_RepeatsFor : Γ f_s_RepeatsFor = c_RepeatsFor) (h_IsDoubt : Γ f_IsDoubt = c_IsDoubt) (h_s_IsDoubt : Γ f_s_IsDoubt = c_s_IsDoubt) (h_vPlus : Γ f_vPlus = c_vPlus) (h_vLess : Γ f_vLess = c_vLess)  : Says P n c_x_False := by
  refine Says.pure fun args r fs h => ?_
  split at h
  case h_2 => cases h
  rename_i v
  split at h
  case h_2 => cases h
  rename_i l hv
  split at h
  case isFalse => cases h
  rename_i hc
  simp only [Option.some.injEq, Prod.mk.injEq] at h
  obtain ⟨rfl, rfl⟩ := h
  by_cases hk : l.length > 65536
  · refine is.go hm hΓ k_x_False o_x_False (by simp [a_x_False]) ?_
    simp only [a_x_False, h_vBig, c_vBig, h_DrawChanceFalse, c_DrawChanceFalse, h_ChanceFalse, c_ChanceFalse, h_s_ChanceFalse, c_ChanceFalse, h_ChanceWithin, c_ChanceWithin, h_s_ChanceWithin, c_ChanceWithin, h_MeanFalse, c_MeanFalse, h_s_MeanFalse, c_MeanFalse, h_ChanceMajority, c_ChanceMajority, h_s_ChanceMajority, c_ChanceMajority, h_vCut, c_vCut, h_DrawRepeatsFor, c_DrawRepeatsFor, h_RepeatsFor, c_RepeatsFor, h_s_RepeatsFor, c_RepeatsFor, h_IsDoubt, c_IsDoubt, h_s_IsDoubt, c_s_IsDoubt, h_vPlus, c_vPlus, h_vLess, c_vLess, hv, hk, List.zipIdx_cons, List.zipIdx_nil, ↓SP, SQ, Gam.add, stepM, callC, argC, lendO, nmBy, nmC, likeL, likeB, plainOb, offs, exL, X, F, trP, trO, stepD, stepW, newA, SV.tr, SV.trL, fz, allP, Ob.tr, loadA, cellsA, SV.cells, binA, binI, eqOut, isSl, isPt, natOf, callee, snap, SV.refsL, SV.refs, thaw, fzAll, loA, hiA, elemOf, partsA, buildA, putCells, ↓reduceIte, reduceCtorEq, okCell, Nat.reduceAdd, Nat.reduceEqDiff, Nat.reduceSub, Nat.reduceMul, Nat.reduceLeDiff, Nat.reduceLT, Nat.reduceBEq, PV.scal, PV.scalL, SV.scal, SV.scalL, Ob.scal, PV.isCell, pure', resO]
    exact finA_val (by simp [retA, rvA, mkE_cons, mk_nil, mkO_cons, mkO_nil, loadA, SV.tr, SV.trL, nmF, rn_nil, rn_cons1, rn_cons2, plainOb, SV.refsL, SV.refs, Ob.refs, X, F, List.range_succ, mkO, setO_mk]) (by simp [SV.tr, SV.trL])
  have hl := (slU_out hv).2
  have hl5 : l.length ≤ 100000 := by omega
  have hv2 : slU (.sl 1 (u8s (cuL l))) = some (cuL l) := slU_u8s (cuL_b hl)
  generalize hm1 : (drR l (0, 0)).1.1 = m at *
  generalize hk1 : (drR l (0, 0)).1.2 = k at *
  generalize hs1 : (dbR l (drR l (0, 0)).2).1.1 = s at *
  generalize ho1 : (dbR l (drR l (0, 0)).2).1.2 = o at *
  generalize hx1 : (dbR (cuL l) (0, 0)).1.1 = xs at *
  generalize hx2 : (dbR (cuL l) (0, 0)).1.2 = xo at *
  generalize hx3 : lsV (cuL l) (dbR (cuL l) (0, 0)).2 = ln at *
  have n20 : ¬ (2 : Int) = 0 := by decide
  cases hvd : vD m k s o with
  | false =>
    refine is.go hm hΓ k_x_False o_x_False (by simp [a_x_False]) ?_
    simp only [a_x_False, h_vBig, c_vBig, h_DrawChanceFalse, c_DrawChanceFalse, h_ChanceFalse, c_ChanceFalse, h_s_ChanceFalse, c_ChanceFalse, h_ChanceWithin, c_ChanceWithin, h_s_ChanceWithin, c_ChanceWithin, h_MeanFalse, c_MeanFalse, h_s_MeanFalse, c_MeanFalse, h_ChanceMajority, c_ChanceMajority, h_s_ChanceMajority, c_ChanceMajority, h_vCut, c_vCut, h_DrawRepeatsFor, c_DrawRepeatsFor, h_RepeatsFor, c_RepeatsFor, h_s_RepeatsFor, c_RepeatsFor, h_IsDoubt, c_IsDoubt, h_s_IsDoubt, c_s_IsDoubt, h_vPlus, c_vPlus, h_vLess, c_vLess, hv, hv2, hl5, hk, hm1, hk1, hs1, ho1, hx1, hx2, hx3, hvd, key_ag, key_eq, n20, bne_self_eq_false, beq_self_eq_true, Bool.and_self, Bool.not_true, Bool.not_false, Bool.false_eq_true, Int.le_refl, Int.reduceToNat, List.zipIdx_cons, List.zipIdx_nil, ↓SP, SQ, Gam.add, stepM, callC, argC, lendO, nmBy, nmC, likeL, likeB, plainOb, offs, exL, X, F, trP, trO, stepD, stepW, newA, SV.tr, SV.trL, fz, allP, Ob.tr, loadA, cellsA, SV.cells, binA, binI, eqOut, isSl, isPt, natOf, callee, snap, SV.refsL, SV.refs, thaw, fzAll, loA, hiA, elemOf, partsA, buildA, putCells, ↓reduceIte, reduceCtorEq, okCell, Nat.reduceAdd, Nat.reduceEqDiff, Nat.reduceSub, Nat.reduceMul, Nat.reduceLeDiff, Nat.reduceLT, Nat.reduceBEq, PV.scal, PV.scalL, SV.scal, SV.scalL, Ob.scal, PV.isCell, pure', resO]
    cases hvm : vM m s o with
    | false =>
      simp only [hvm, n20, hv, hv2, hl5, hk, hm1, hk1, hs1, ho1, hx1, hx2, hx3, hvd, key_ag, key_eq, n20, bne_self_eq_false, beq_self_eq_true, Bool.and_self, Bool.not_true, Bool.not_false, Bool.false_eq_true, Int.le_refl, Int.reduceToNat, h_ChanceFalse, c_ChanceFalse, h_ChanceWithin, c_ChanceWithin, h_ChanceMajority, c_ChanceMajority, h_vPlus, c_vPlus, h_vLess, c_vLess, ↓SP, SQ, Gam.add, stepM, callC, argC, lendO, nmBy, nmC, likeL, likeB, plainOb, offs, exL, X, F, trP, trO, stepD, stepW, newA, SV.tr, SV.trL, fz, allP, Ob.tr, loadA, cellsA, SV.cells, binA, binI, eqOut, isSl, isPt, natOf, callee, snap, SV.refsL, SV.refs, thaw, fzAll, loA, hiA, elemOf, partsA, buildA, putCells, ↓reduceIte, reduceCtorEq, okCell, Nat.reduceAdd, Nat.reduceEqDiff, Nat.reduceSub, Nat.reduceMul, Nat.reduceLeDiff, Nat.reduceLT, Nat.reduceBEq, PV.scal, PV.scalL, SV.scal, SV.scalL, Ob.scal, PV.isCell, pure', resO]
      rcases rfV_out xs xo ln 10 with hr | ⟨j, hj, hr, hdx, hdl, hp, hn⟩
      · simp only [hr, hvm, n20, hv, hv2, hl5, hk, hm1, hk1, hs1, ho1, hx1, hx2, hx3, hvd, key_ag, key_eq, n20, bne_self_eq_false, beq_self_eq_true, Bool.and_self, Bool.not_true, Bool.not_false, Bool.false_eq_true, Int.le_refl, Int.reduceToNat, h_ChanceFalse, c_ChanceFalse, h_ChanceWithin, c_ChanceWithin, h_ChanceMajority, c_ChanceMajority, h_vPlus, c_vPlus, h_vLess, c_vLess, ↓SP, SQ, Gam.add, stepM, callC, argC, lendO, nmBy, nmC, likeL, likeB, plainOb, offs, exL, X, F, trP, trO, stepD, stepW, newA, SV.tr, SV.trL, fz, allP, Ob.tr, loadA, cellsA, SV.cells, binA, binI, eqOut, isSl, isPt, natOf, callee, snap, SV.refsL, SV.refs, thaw, fzAll, loA, hiA, elemOf, partsA, buildA, putCells, ↓reduceIte, reduceCtorEq, okCell, Nat.reduceAdd, Nat.reduceEqDiff, Nat.reduceSub, Nat.reduceMul, Nat.reduceLeDiff, Nat.reduceLT, Nat.reduceBEq, PV.scal, PV.scalL, SV.scal, SV.scalL, Ob.scal, PV.isCell, pure', resO]
        exact finA_val (by simp [retA, rvA, mkE_cons, mk_nil, mkO_cons, mkO_nil, loadA, SV.tr, SV.trL, nmF, rn_nil, rn_cons1, rn_cons2, plainOb, SV.refsL, SV.refs, Ob.refs, X, F, List.range_succ, mkO, setO_mk]) (by simp [SV.tr, SV.trL])
      · obtain ⟨l1, l2, l3, l4⟩ := isD_out hdl
        obtain ⟨hvt, hca⟩ := ca_rd hj hdx
        obtain ⟨c1, c2, c3⟩ := ca_b hj hdx
        have c0 : (0 : Int) ≤ ((rd (inB xs.toNat xo.toNat (2 * j + 1) (j + 1)) (xo.toNat ^ (2 * j + 1))).1 : Int) := Int.natCast_nonneg _
        have hle := less_of hdx (c := ln.toNat) (by omega) hj
        have e10 : (10 : Int).toNat = 10 := rfl
        rw [e10] at hp hn
        rw [hp] at hle
        have hvl : decide ((rd (inB xs.toNat xo.toNat (2 * j + 1) (j + 1)) (xo.toNat ^ (2 * j + 1))).1 * (10 / Nat.gcd (rd (inB xs.toNat xo.toNat (2 * j + 1) (j + 1)) (xo.toNat ^ (2 * j + 1))).2 10) < ln.toNat * ((rd (inB xs.toNat xo.toNat (2 * j + 1) (j + 1)) (xo.toNat ^ (2 * j + 1))).2 / Nat.gcd (rd (inB xs.toNat xo.toNat (2 * j + 1) (j + 1)) (xo.toNat ^ (2 * j + 1))).2 10)) = false := hle
        have hrm : ((2 * j + 1 : Nat) : Int).tmod 2 = 1 := by rw [Int.tmod_eq_emod_of_nonneg (by omega)]; omega
        have h10 : ((1 : Int) == 0) = false := rfl
        have lb : ln ≤ 100 := by omega
        have l0 : 0 ≤ ln := by omega
        have k1 : (1 : Int) ≤ 10 := by decide
        have k2 : (10 : Int) ≤ 100 := by decide
        by_cases hj0 : j = 0
        · have hgt : ¬ ((2 * j + 1 : Nat) : Int) > 1 := by omega
          simp only [hr, hvt, hca, c0, c1, c2, c3, hvl, hrm, h10, lb, l0, k1, k2, hgt, hvm, n20, hv, hv2, hl5, hk, hm1, hk1, hs1, ho1, hx1, hx2, hx3, hvd, key_ag, key_eq, n20, bne_self_eq_false, beq_self_eq_true, Bool.and_self, Bool.not_true, Bool.not_false, Bool.false_eq_true, Int.le_refl, Int.reduceToNat, h_ChanceFalse, c_ChanceFalse, h_ChanceWithin, c_ChanceWithin, h_ChanceMajority, c_ChanceMajority, h_vPlus, c_vPlus, h_vLess, c_vLess, Int.toNat_natCast, ↓SP, SQ, Gam.add, stepM, callC, argC, lendO, nmBy, nmC, likeL, likeB, plainOb, offs, exL, X, F, trP, trO, stepD, stepW, newA, SV.tr, SV.trL, fz, allP, Ob.tr, loadA, cellsA, SV.cells, binA, binI, eqOut, isSl, isPt, natOf, callee, snap, SV.refsL, SV.refs, thaw, fzAll, loA, hiA, elemOf, partsA, buildA, putCells, ↓reduceIte, reduceCtorEq, okCell, Nat.reduceAdd, Nat.reduceEqDiff, Nat.reduceSub, Nat.reduceMul, Nat.reduceLeDiff, Nat.reduceLT, Nat.reduceBEq, PV.scal, PV.scalL, SV.scal, SV.scalL, Ob.scal, PV.isCell, pure', resO]
          exact finA_val (by simp [retA, rvA, mkE_cons, mk_nil, mkO_cons, mkO_nil, loadA, SV.tr, SV.trL, nmF, rn_nil, rn_cons1, rn_cons2, plainOb, SV.refsL, SV.refs, Ob.refs, X, F, List.range_succ, mkO, setO_mk]) (by simp [SV.tr, SV.trL])
        · obtain ⟨i, rfl⟩ : ∃ i, j = i + 1 := ⟨j - 1, by omega⟩
          have hgt : ((2 * (i + 1) + 1 : Nat) : Int) > 1 := by omega
          have hi : i < 6 := by omega
          obtain ⟨hvt2, hca2⟩ := ca_rd hi hdx
          obtain ⟨f1, f2, f3⟩ := ca_b hi hdx
          have f0 : (0 : Int) ≤ ((rd (inB xs.toNat xo.toNat (2 * i + 1) (i + 1)) (xo.toNat ^ (2 * i + 1))).1 : Int) := Int.natCast_nonneg _
          have hle2 := less_of hdx (c := ln.toNat) (by omega) hi
          rw [hn i (by omega)] at hle2
          have hvl2 : decide ((rd (inB xs.toNat xo.toNat (2 * i + 1) (i + 1)) (xo.toNat ^ (2 * i + 1))).1 * (10 / Nat.gcd (rd (inB xs.toNat xo.toNat (2 * i + 1) (i + 1)) (xo.toNat ^ (2 * i + 1))).2 10) < ln.toNat * ((rd (inB xs.toNat xo.toNat (2 * i + 1) (i + 1)) (xo.toNat ^ (2 * i + 1))).2 / Nat.gcd (rd (inB xs.toNat xo.toNat (2 * i + 1) (i + 1)) (xo.toNat ^ (2 * i + 1))).2 10)) = true := hle2
          have hw2 : IntKind.i64.wrap (((2 * (i + 1) + 1 : Nat) : Int) - 2) = ((2 * i + 1 : Nat) : Int) := by rw [wrap64 (by omega) (by omega)]; omega
          simp only [hr, hvt, hca, c0, c1, c2, c3, hvl, hrm, h10, lb, l0, k1, k2, hgt, hw2, hvt2, hca2, f0, f1, f2, f3, hvl2, hvm, n20, hv, hv2, hl5, hk, hm1, hk1, hs1, ho1, hx1, hx2, hx3, hvd, key_ag, key_eq, n20, bne_self_eq_false, beq_self_eq_true, Bool.and_self, Bool.not_true, Bool.not_false, Bool.false_eq_true, Int.le_refl, Int.reduceToNat, h_ChanceFalse, c_ChanceFalse, h_ChanceWithin, c_ChanceWithin, h_ChanceMajority, c_ChanceMajority, h_vPlus, c_vPlus, h_vLess, c_vLess, Int.toNat_natCast, ↓SP, SQ, Gam.add, stepM, callC, argC, lendO, nmBy, nmC, likeL, likeB, plainOb, offs, exL, X, F, trP, trO, stepD, stepW, newA, SV.tr, SV.trL, fz, allP, Ob.tr, loadA, cellsA, SV.cells, binA, binI, eqOut, isSl, isPt, natOf, callee, snap, SV.refsL, SV.refs, thaw, fzAll, loA, hiA, elemOf, partsA, buildA, putCells, ↓reduceIte, reduceCtorEq, okCell, Nat.reduceAdd, Nat.reduceEqDiff, Nat.reduceSub, Nat.reduceMul, Nat.reduceLeDiff, Nat.reduceLT, Nat.reduceBEq, PV.scal, PV.scalL, SV.scal, SV.scalL, Ob.scal, PV.isCell, pure', resO]
          exact finA_val (by simp [retA, rvA, mkE_cons, mk_nil, mkO_cons, mkO_nil, loadA, SV.tr, SV.trL, nmF, rn_nil, rn_cons1, rn_cons2, plainOb, SV.refsL, SV.refs, Ob.refs, X, F, List.range_succ, mkO, setO_mk]) (by simp [SV.tr, SV.trL])
    | true =>
      obtain ⟨_, gm1, gm2⟩ := vM_out hvm
      obtain ⟨w1, w2, _, _⟩ := mj_half gm1 gm2
      obtain ⟨hvh, hcw⟩ := wi_half hvm
      simp only [hvm, w1, w2, hvh, hcw, n20, hv, hv2, hl5, hk, hm1, hk1, hs1, ho1, hx1, hx2, hx3, hvd, key_ag, key_eq, n20, bne_self_eq_false, beq_self_eq_true, Bool.and_self, Bool.not_true, Bool.not_false, Bool.false_eq_true, Int.le_refl, Int.reduceToNat, h_ChanceFalse, c_ChanceFalse, h_ChanceWithin, c_ChanceWithin, h_ChanceMajority, c_ChanceMajority, h_vPlus, c_vPlus, h_vLess, c_vLess, ↓SP, SQ, Gam.add, stepM, callC, argC, lendO, nmBy, nmC, likeL, likeB, plainOb, offs, exL, X, F, trP, trO, stepD, stepW, newA, SV.tr, SV.trL, fz, allP, Ob.tr, loadA, cellsA, SV.cells, binA, binI, eqOut, isSl, isPt, natOf, callee, snap, SV.refsL, SV.refs, thaw, fzAll, loA, hiA, elemOf, partsA, buildA, putCells, ↓reduceIte, reduceCtorEq, okCell, Nat.reduceAdd, Nat.reduceEqDiff, Nat.reduceSub, Nat.reduceMul, Nat.reduceLeDiff, Nat.reduceLT, Nat.reduceBEq, PV.scal, PV.scalL, SV.scal, SV.scalL, Ob.scal, PV.isCell, pure', resO]
      rcases rfV_out xs xo ln 10 with hr | ⟨j, hj, hr, hdx, hdl, hp, hn⟩
      · simp only [hr, hvm, w1, w2, hvh, hcw, n20, hv, hv2, hl5, hk, hm1, hk1, hs1, ho1, hx1, hx2, hx3, hvd, key_ag, key_eq, n20, bne_self_eq_false, beq_self_eq_true, Bool.and_self, Bool.not_true, Bool.not_false, Bool.false_eq_true, Int.le_refl, Int.reduceToNat, h_ChanceFalse, c_ChanceFalse, h_ChanceWithin, c_ChanceWithin, h_ChanceMajority, c_ChanceMajority, h_vPlus, c_vPlus, h_vLess, c_vLess, ↓SP, SQ, Gam.add, stepM, callC, argC, lendO, nmBy, nmC, likeL, likeB, plainOb, offs, exL, X, F, trP, trO, stepD, stepW, newA, SV.tr, SV.trL, fz, allP, Ob.tr, loadA, cellsA, SV.cells, binA, binI, eqOut, isSl, isPt, natOf, callee, snap, SV.refsL, SV.refs, thaw, fzAll, loA, hiA, elemOf, partsA, buildA, putCells, ↓reduceIte, reduceCtorEq, okCell, Nat.reduceAdd, Nat.reduceEqDiff, Nat.reduceSub, Nat.reduceMul, Nat.reduceLeDiff, Nat.reduceLT, Nat.reduceBEq, PV.scal, PV.scalL, SV.scal, SV.scalL, Ob.scal, PV.isCell, pure', resO]
        exact finA_val (by simp [retA, rvA, mkE_cons, mk_nil, mkO_cons, mkO_nil, loadA, SV.tr, SV.trL, nmF, rn_nil, rn_cons1, rn_cons2, plainOb, SV.refsL, SV.refs, Ob.refs, X, F, List.range_succ, mkO, setO_mk]) (by simp [SV.tr, SV.trL])
      · obtain ⟨l1, l2, l3, l4⟩ := isD_out hdl
        obtain ⟨hvt, hca⟩ := ca_rd hj hdx
        obtain ⟨c1, c2, c3⟩ := ca_b hj hdx
        have c0 : (0 : Int) ≤ ((rd (inB xs.toNat xo.toNat (2 * j + 1) (j + 1)) (xo.toNat ^ (2 * j + 1))).1 : Int) := Int.natCast_nonneg _
        have hle := less_of hdx (c := ln.toNat) (by omega) hj
        have e10 : (10 : Int).toNat = 10 := rfl
        rw [e10] at hp hn
        rw [hp] at hle
        have hvl : decide ((rd (inB xs.toNat xo.toNat (2 * j + 1) (j + 1)) (xo.toNat ^ (2 * j + 1))).1 * (10 / Nat.gcd (rd (inB xs.toNat xo.toNat (2 * j + 1) (j + 1)) (xo.toNat ^ (2 * j + 1))).2 10) < ln.toNat * ((rd (inB xs.toNat xo.toNat (2 * j + 1) (j + 1)) (xo.toNat ^ (2 * j + 1))).2 / Nat.gcd (rd (inB xs.toNat xo.toNat (2 * j + 1) (j + 1)) (xo.toNat ^ (2 * j + 1))).2 10)) = false := hle
        have hrm : ((2 * j + 1 : Nat) : Int).tmod 2 = 1 := by rw [Int.tmod_eq_emod_of_nonneg (by omega)]; omega
        have h10 : ((1 : Int) == 0) = false := rfl
        have lb : ln ≤ 100 := by omega
        have l0 : 0 ≤ ln := by omega
        have k1 : (1 : Int) ≤ 10 := by decide
        have k2 : (10 : Int) ≤ 100 := by decide
        by_cases hj0 : j = 0
        · have hgt : ¬ ((2 * j + 1 : Nat) : Int) > 1 := by omega
          simp only [hr, hvt, hca, c0, c1, c2, c3, hvl, hrm, h10, lb, l0, k1, k2, hgt, hvm, w1, w2, hvh, hcw, n20, hv, hv2, hl5, hk, hm1, hk1, hs1, ho1, hx1, hx2, hx3, hvd, key_ag, key_eq, n20, bne_self_eq_false, beq_self_eq_true, Bool.and_self, Bool.not_true, Bool.not_false, Bool.false_eq_true, Int.le_refl, Int.reduceToNat, h_ChanceFalse, c_ChanceFalse, h_ChanceWithin, c_ChanceWithin, h_ChanceMajority, c_ChanceMajority, h_vPlus, c_vPlus, h_vLess, c_vLess, Int.toNat_natCast, ↓SP, SQ, Gam.add, stepM, callC, argC, lendO, nmBy, nmC, likeL, likeB, plainOb, offs, exL, X, F, trP, trO, stepD, stepW, newA, SV.tr, SV.trL, fz, allP, Ob.tr, loadA, cellsA, SV.cells, binA, binI, eqOut, isSl, isPt, natOf, callee, snap, SV.refsL, SV.refs, thaw, fzAll, loA, hiA, elemOf, partsA, buildA, putCells, ↓reduceIte, reduceCtorEq, okCell, Nat.reduceAdd, Nat.reduceEqDiff, Nat.reduceSub, Nat.reduceMul, Nat.reduceLeDiff, Nat.reduceLT, Nat.reduceBEq, PV.scal, PV.scalL, SV.scal, SV.scalL, Ob.scal, PV.isCell, pure', resO]
          exact finA_val (by simp [retA, rvA, mkE_cons, mk_nil, mkO_cons, mkO_nil, loadA, SV.tr, SV.trL, nmF, rn_nil, rn_cons1, rn_cons2, plainOb, SV.refsL, SV.refs, Ob.refs, X, F, List.range_succ, mkO, setO_mk]) (by simp [SV.tr, SV.trL])
        · obtain ⟨i, rfl⟩ : ∃ i, j = i + 1 := ⟨j - 1, by omega⟩
          have hgt : ((2 * (i + 1) + 1 : Nat) : Int) > 1 := by omega
          have hi : i < 6 := by omega
          obtain ⟨hvt2, hca2⟩ := ca_rd hi hdx
          obtain ⟨f1, f2, f3⟩ := ca_b hi hdx
          have f0 : (0 : Int) ≤ ((rd (inB xs.toNat xo.toNat (2 * i + 1) (i + 1)) (xo.toNat ^ (2 * i + 1))).1 : Int) := Int.natCast_nonneg _
          have hle2 := less_of hdx (c := ln.toNat) (by omega) hi
          rw [hn i (by omega)] at hle2
          have hvl2 : decide ((rd (inB xs.toNat xo.toNat (2 * i + 1) (i + 1)) (xo.toNat ^ (2 * i + 1))).1 * (10 / Nat.gcd (rd (inB xs.toNat xo.toNat (2 * i + 1) (i + 1)) (xo.toNat ^ (2 * i + 1))).2 10) < ln.toNat * ((rd (inB xs.toNat xo.toNat (2 * i + 1) (i + 1)) (xo.toNat ^ (2 * i + 1))).2 / Nat.gcd (rd (inB xs.toNat xo.toNat (2 * i + 1) (i + 1)) (xo.toNat ^ (2 * i + 1))).2 10)) = true := hle2
          have hw2 : IntKind.i64.wrap (((2 * (i + 1) + 1 : Nat) : Int) - 2) = ((2 * i + 1 : Nat) : Int) := by rw [wrap64 (by omega) (by omega)]; omega
          simp only [hr, hvt, hca, c0, c1, c2, c3, hvl, hrm, h10, lb, l0, k1, k2, hgt, hw2, hvt2, hca2, f0, f1, f2, f3, hvl2, hvm, w1, w2, hvh, hcw, n20, hv, hv2, hl5, hk, hm1, hk1, hs1, ho1, hx1, hx2, hx3, hvd, key_ag, key_eq, n20, bne_self_eq_false, beq_self_eq_true, Bool.and_self, Bool.not_true, Bool.not_false, Bool.false_eq_true, Int.le_refl, Int.reduceToNat, h_ChanceFalse, c_ChanceFalse, h_ChanceWithin, c_ChanceWithin, h_ChanceMajority, c_ChanceMajority, h_vPlus, c_vPlus, h_vLess, c_vLess, Int.toNat_natCast, ↓SP, SQ, Gam.add, stepM, callC, argC, lendO, nmBy, nmC, likeL, likeB, plainOb, offs, exL, X, F, trP, trO, stepD, stepW, newA, SV.tr, SV.trL, fz, allP, Ob.tr, loadA, cellsA, SV.cells, binA, binI, eqOut, isSl, isPt, natOf, callee, snap, SV.refsL, SV.refs, thaw, fzAll, loA, hiA, elemOf, partsA, buildA, putCells, ↓reduceIte, reduceCtorEq, okCell, Nat.reduceAdd, Nat.reduceEqDiff, Nat.reduceSub, Nat.reduceMul, Nat.reduceLeDiff, Nat.reduceLT, Nat.reduceBEq, PV.scal, PV.scalL, SV.scal, SV.scalL, Ob.scal, PV.isCell, pure', resO]
          exact finA_val (by simp [retA, rvA, mkE_cons, mk_nil, mkO_cons, mkO_nil, loadA, SV.tr, SV.trL, nmF, rn_nil, rn_cons1, rn_cons2, plainOb, SV.refsL, SV.refs, Ob.refs, X, F, List.range_succ, mkO, setO_mk]) (by simp [SV.tr, SV.trL])
  | true =>
    obtain ⟨hdo, ⟨gm1, gm2⟩, gk1, gk2⟩ := vD_out hvd
    have hv0 : vD m 0 s o = true := by rw [vD_0, hdo, dec_t gm1, dec_t gm2]; rfl
    obtain ⟨sm0, sm1, sm2⟩ := sum_of hdo (m := m.toNat) (by omega)
    refine is.go hm hΓ k_x_False o_x_False (by simp [a_x_False]) ?_
    simp only [a_x_False, h_vBig, c_vBig, h_DrawChanceFalse, c_DrawChanceFalse, h_ChanceFalse, c_ChanceFalse, h_s_ChanceFalse, c_ChanceFalse, h_ChanceWithin, c_ChanceWithin, h_s_ChanceWithin, c_ChanceWithin, h_MeanFalse, c_MeanFalse, h_s_MeanFalse, c_MeanFalse, h_ChanceMajority, c_ChanceMajority, h_s_ChanceMajority, c_ChanceMajority, h_vCut, c_vCut, h_DrawRepeatsFor, c_DrawRepeatsFor, h_RepeatsFor, c_RepeatsFor, h_s_RepeatsFor, c_RepeatsFor, h_IsDoubt, c_IsDoubt, h_s_IsDoubt, c_s_IsDoubt, h_vPlus, c_vPlus, h_vLess, c_vLess, hv0, hv, hv2, hl5, hk, hm1, hk1, hs1, ho1, hx1, hx2, hx3, hvd, key_ag, key_eq, n20, bne_self_eq_false, beq_self_eq_true, Bool.and_self, Bool.not_true, Bool.not_false, Bool.false_eq_true, Int.le_refl, Int.reduceToNat, List.zipIdx_cons, List.zipIdx_nil, ↓SP, SQ, Gam.add, stepM, callC, argC, lendO, nmBy, nmC, likeL, likeB, plainOb, offs, exL, X, F, trP, trO, stepD, stepW, newA, SV.tr, SV.trL, fz, allP, Ob.tr, loadA, cellsA, SV.cells, binA, binI, eqOut, isSl, isPt, natOf, callee, snap, SV.refsL, SV.refs, thaw, fzAll, loA, hiA, elemOf, partsA, buildA, putCells, ↓reduceIte, reduceCtorEq, okCell, Nat.reduceAdd, Nat.reduceEqDiff, Nat.reduceSub, Nat.reduceMul, Nat.reduceLeDiff, Nat.reduceLT, Nat.reduceBEq, PV.scal, PV.scalL, SV.scal, SV.scalL, Ob.scal, PV.isCell, pure', resO]
    refine loop_at (fun st : Nat × SV × SV × SV × SV × SV × Option Ob => mkEnv [(0, .p v), (2, sb false), (3, si m), (4, si k), (5, .bx 5 0), (6, .bx 6 0), (7, sb true), (8, .bx 8 0), (9, sb true), (10, .bx 10 0), (11, sb true), (12, .bx 12 0), (13, sb true), (14, .bx 14 0), (15, sb true), (16, .bx 16 0), (17, sb true), (18, .bx 18 0), (19, sb (vM m s o)), (20, .bx 20 0), (21, sb (vM m s o)), (22, .bx 22 0), (23, .bx 23 0), (24, si (rfV xs xo ln 10).1), (25, sb (rfV xs xo ln 10).2), (26, si (rfV xs xo ln 10).1), (27, sb (rfV xs xo ln 10).2), (28, .bx 28 0), (29, .bx 29 0), (30, si st.1), (31, st.2.1), (32, st.2.2.1), (33, .junk), (34, .junk), (35, .junk), (36, .junk), (37, .junk), (38, .junk), (40, sb false), (183, sb false), (184, sb true), (189, st.2.2.2.1), (200, st.2.2.2.2.1), (203, st.2.2.2.2.2.1), (217, .junk), (218, .junk), (234, .junk), (235, .junk), (257, .junk), (259, .junk)]) (fun st => mkO [(5, some (.box [si s, si o])), (6, some (.box [si (cfV m k s o).1, si (cfV m k s o).2])), (8, some (.box [si (cfV m k s o).1, si (cfV m k s o).2])), (10, some (.box [si (cwV m k s o).1, si (cwV m k s o).2])), (12, some (.box [si (cwV m k s o).1, si (cwV m k s o).2])), (14, some (.box [si (cmV m s o).1, si (cmV m s o).2])), (16, some (.box [si (cmV m s o).1, si (cmV m s o).2])), (18, some (.box [si (caV m s o).1, si (caV m s o).2])), (20, some (.box [si (caV m s o).1, si (caV m s o).2])), (22, some (.box [si xs, si xo])), (23, some (.box [si ln, si 10])), (28, some (.box [si (sS s.toNat o.toNat m.toNat (min st.1 (k.toNat + 1))).1, si (sS s.toNat o.toNat m.toNat (min st.1 (k.toNat + 1))).2])), (29, some (.box [si (sS s.toNat o.toNat m.toNat st.1).1, si (sS s.toNat o.toNat m.toNat st.1).2])), (31, st.2.2.2.2.2.2), (33, none), (35, none), (37, none)]) (fun st => st.1 ≤ m.toNat + 1) (fun st => m.toNat + 1 - st.1) (0, .junk, .junk, .junk, .junk, .junk, none) (by simp) rfl (by simp [sm0]) ?_
    rintro ⟨i, y1, y2, y3, y4, y5, o1⟩ hi R hR hN
    simp only at hi
    by_cases h : i ≤ m.toNat
    · have hlt : (i : Int) ≤ m := by omega
      have hvi : vD m (i : Int) s o = true := by simp only [vD, hdo, dec_t gm1, dec_t gm2, dec_t (show (0 : Int) ≤ (i : Int) by omega), dec_t hlt, Bool.and_self]
      have hcf := cf_rd hvi
      obtain ⟨s1, s2⟩ := sm2 i h
      have hw : IntKind.i64.wrap ((i : Int) + 1) = ((i + 1 : Nat) : Int) := wrap_one (by omega)
      by_cases hik : i ≤ k.toNat
      · have hlk : (i : Int) ≤ k := by omega
        have e1 : min i (k.toNat + 1) = i := by omega
        have e2 : min (i + 1) (k.toNat + 1) = i + 1 := by omega
        simp only [hlt, hvi, hcf, hw, hlk, e1, s1, s2, nn2_c, Int.natCast_nonneg, hv, hv2, hl5, hk, hm1, hk1, hs1, ho1, hx1, hx2, hx3, hvd, key_ag, key_eq, n20, bne_self_eq_false, beq_self_eq_true, Bool.and_self, Bool.not_true, Bool.not_false, Bool.false_eq_true, Int.le_refl, Int.reduceToNat, h_ChanceFalse, c_ChanceFalse, h_ChanceWithin, c_ChanceWithin, h_ChanceMajority, c_ChanceMajority, h_vPlus, c_vPlus, h_vLess, c_vLess, ↓SP, SQ, Gam.add, stepM, callC, argC, lendO, nmBy, nmC, likeL, likeB, plainOb, offs, exL, X, F, trP, trO, stepD, stepW, newA, SV.tr, SV.trL, fz, allP, Ob.tr, loadA, cellsA, SV.cells, binA, binI, eqOut, isSl, isPt, natOf, callee, snap, SV.refsL, SV.refs, thaw, fzAll, loA, hiA, elemOf, partsA, buildA, putCells, ↓reduceIte, reduceCtorEq, okCell, Nat.reduceAdd, Nat.reduceEqDiff, Nat.reduceSub, Nat.reduceMul, Nat.reduceLeDiff, Nat.reduceLT, Nat.reduceBEq, PV.scal, PV.scalL, SV.scal, SV.scalL, Ob.scal, PV.isCell, pure', resO]
        exact hN (i + 1, _, _, _, _, _, _) _ _ (by simp only; omega) (by simp only; omega) rfl (by simp only [e2]; rfl)
      · have hlk : ¬ (i : Int) ≤ k := by omega
        have e1 : min i (k.toNat + 1) = k.toNat + 1 := by omega
        have e2 : min (i + 1) (k.toNat + 1) = k.toNat + 1 := by omega
        simp only [hlt, hvi, hcf, hw, hlk, e1, s1, s2, nn2_c, Int.natCast_nonneg, hv, hv2, hl5, hk, hm1, hk1, hs1, ho1, hx1, hx2, hx3, hvd, key_ag, key_eq, n20, bne_self_eq_false, beq_self_eq_true, Bool.and_self, Bool.not_true, Bool.not_false, Bool.false_eq_true, Int.le_refl, Int.reduceToNat, h_ChanceFalse, c_ChanceFalse, h_ChanceWithin, c_ChanceWithin, h_ChanceMajority, c_ChanceMajority, h_vPlus, c_vPlus, h_vLess, c_vLess, ↓SP, SQ, Gam.add, stepM, callC, argC, lendO, nmBy, nmC, likeL, likeB, plainOb, offs, exL, X, F, trP, trO, stepD, stepW, newA, SV.tr, SV.trL, fz, allP, Ob.tr, loadA, cellsA, SV.cells, binA, binI, eqOut, isSl, isPt, natOf, callee, snap, SV.refsL, SV.refs, thaw, fzAll, loA, hiA, elemOf, partsA, buildA, putCells, ↓reduceIte, reduceCtorEq, okCell, Nat.reduceAdd, Nat.reduceEqDiff, Nat.reduceSub, Nat.reduceMul, Nat.reduceLeDiff, Nat.reduceLT, Nat.reduceBEq, PV.scal, PV.scalL, SV.scal, SV.scalL, Ob.scal, PV.isCell, pure', resO]
        exact hN (i + 1, _, _, _, _, _, _) _ _ (by simp only; omega) (by simp only; omega) rfl (by simp only [e2]; rfl)
    · have he : i = m.toNat + 1 := by omega
      subst he
      have hlt : ¬ ((m.toNat + 1 : Nat) : Int) ≤ m := by omega
      have e1 : min (m.toNat + 1) (k.toNat + 1) = k.toNat + 1 := by omega
      have hcw0 := cw_rd hvd
      simp only [hlt, hv, hv2, hl5, hk, hm1, hk1, hs1, ho1, hx1, hx2, hx3, hvd, key_ag, key_eq, n20, bne_self_eq_false, beq_self_eq_true, Bool.and_self, Bool.not_true, Bool.not_false, Bool.false_eq_true, Int.le_refl, Int.reduceToNat, ↓SP, SQ, Gam.add, stepM, callC, argC, lendO, nmBy, nmC, likeL, likeB, plainOb, offs, exL, X, F, trP, trO, stepD, stepW, newA, SV.tr, SV.trL, fz, allP, Ob.tr, loadA, cellsA, SV.cells, binA, binI, eqOut, isSl, isPt, natOf, callee, snap, SV.refsL, SV.refs, thaw, fzAll, loA, hiA, elemOf, partsA, buildA, putCells, ↓reduceIte, reduceCtorEq, okCell, Nat.reduceAdd, Nat.reduceEqDiff, Nat.reduceSub, Nat.reduceMul, Nat.reduceLeDiff, Nat.reduceLT, Nat.reduceBEq, PV.scal, PV.scalL, SV.scal, SV.scalL, Ob.scal, PV.isCell, pure', resO]
      refine hR _ _ _ (by intro h; cases h) ?_
      simp only [e1, sm1, hcw0, hv, hv2, hl5, hk, hm1, hk1, hs1, ho1, hx1, hx2, hx3, hvd, key_ag, key_eq, n20, bne_self_eq_false, beq_self_eq_true, Bool.and_self, Bool.not_true, Bool.not_false, Bool.false_eq_true, Int.le_refl, Int.reduceToNat, h_ChanceFalse, c_ChanceFalse, h_ChanceWithin, c_ChanceWithin, h_ChanceMajority, c_ChanceMajority, h_vPlus, c_vPlus, h_vLess, c_vLess, ↓SP, SQ, Gam.add, stepM, callC, argC, lendO, nmBy, nmC, likeL, likeB, plainOb, offs, exL, X, F, trP, trO, stepD, stepW, newA, SV.tr, SV.trL, fz, allP, Ob.tr, loadA, cellsA, SV.cells, binA, binI, eqOut, isSl, isPt, natOf, callee, snap, SV.refsL, SV.refs, thaw, fzAll, loA, hiA, elemOf, partsA, buildA, putCells, ↓reduceIte, reduceCtorEq, okCell, Nat.reduceAdd, Nat.reduceEqDiff, Nat.reduceSub, Nat.reduceMul, Nat.reduceLeDiff, Nat.reduceLT, Nat.reduceBEq, PV.scal, PV.scalL, SV.scal, SV.scalL, Ob.scal, PV.isCell, pure', resO]
      cases hvm : vM m s o with
      | false =>
        simp only [hvm, e1, sm1, hcw0, hv, hv2, hl5, hk, hm1, hk1, hs1, ho1, hx1, hx2, hx3, hvd, key_ag, key_eq, n20, bne_self_eq_false, beq_self_eq_true, Bool.and_self, Bool.not_true, Bool.not_false, Bool.false_eq_true, Int.le_refl, Int.reduceToNat, h_ChanceFalse, c_ChanceFalse, h_ChanceWithin, c_ChanceWithin, h_ChanceMajority, c_ChanceMajority, h_vPlus, c_vPlus, h_vLess, c_vLess, ↓SP, SQ, Gam.add, stepM, callC, argC, lendO, nmBy, nmC, likeL, likeB, plainOb, offs, exL, X, F, trP, trO, stepD, stepW, newA, SV.tr, SV.trL, fz, allP, Ob.tr, loadA, cellsA, SV.cells, binA, binI, eqOut, isSl, isPt, natOf, callee, snap, SV.refsL, SV.refs, thaw, fzAll, loA, hiA, elemOf, partsA, buildA, putCells, ↓reduceIte, reduceCtorEq, okCell, Nat.reduceAdd, Nat.reduceEqDiff, Nat.reduceSub, Nat.reduceMul, Nat.reduceLeDiff, Nat.reduceLT, Nat.reduceBEq, PV.scal, PV.scalL, SV.scal, SV.scalL, Ob.scal, PV.isCell, pure', resO]
        rcases rfV_out xs xo ln 10 with hr | ⟨j, hj, hr, hdx, hdl, hp, hn⟩
        · simp only [hr, hvm, e1, sm1, hcw0, hv, hv2, hl5, hk, hm1, hk1, hs1, ho1, hx1, hx2, hx3, hvd, key_ag, key_eq, n20, bne_self_eq_false, beq_self_eq_true, Bool.and_self, Bool.not_true, Bool.not_false, Bool.false_eq_true, Int.le_refl, Int.reduceToNat, h_ChanceFalse, c_ChanceFalse, h_ChanceWithin, c_ChanceWithin, h_ChanceMajority, c_ChanceMajority, h_vPlus, c_vPlus, h_vLess, c_vLess, ↓SP, SQ, Gam.add, stepM, callC, argC, lendO, nmBy, nmC, likeL, likeB, plainOb, offs, exL, X, F, trP, trO, stepD, stepW, newA, SV.tr, SV.trL, fz, allP, Ob.tr, loadA, cellsA, SV.cells, binA, binI, eqOut, isSl, isPt, natOf, callee, snap, SV.refsL, SV.refs, thaw, fzAll, loA, hiA, elemOf, partsA, buildA, putCells, ↓reduceIte, reduceCtorEq, okCell, Nat.reduceAdd, Nat.reduceEqDiff, Nat.reduceSub, Nat.reduceMul, Nat.reduceLeDiff, Nat.reduceLT, Nat.reduceBEq, PV.scal, PV.scalL, SV.scal, SV.scalL, Ob.scal, PV.isCell, pure', resO]
          exact finA_val (by simp [retA, rvA, mkE_cons, mk_nil, mkO_cons, mkO_nil, loadA, SV.tr, SV.trL, nmF, rn_nil, rn_cons1, rn_cons2, plainOb, SV.refsL, SV.refs, Ob.refs, X, F, List.range_succ, mkO, setO_mk]) (by simp [SV.tr, SV.trL])
        · obtain ⟨l1, l2, l3, l4⟩ := isD_out hdl
          obtain ⟨hvt, hca⟩ := ca_rd hj hdx
          obtain ⟨c1, c2, c3⟩ := ca_b hj hdx
          have c0 : (0 : Int) ≤ ((rd (inB xs.toNat xo.toNat (2 * j + 1) (j + 1)) (xo.toNat ^ (2 * j + 1))).1 : Int) := Int.natCast_nonneg _
          have hle := less_of hdx (c := ln.toNat) (by omega) hj
          have e10 : (10 : Int).toNat = 10 := rfl
          rw [e10] at hp hn
          rw [hp] at hle
          have hvl : decide ((rd (inB xs.toNat xo.toNat (2 * j + 1) (j + 1)) (xo.toNat ^ (2 * j + 1))).1 * (10 / Nat.gcd (rd (inB xs.toNat xo.toNat (2 * j + 1) (j + 1)) (xo.toNat ^ (2 * j + 1))).2 10) < ln.toNat * ((rd (inB xs.toNat xo.toNat (2 * j + 1) (j + 1)) (xo.toNat ^ (2 * j + 1))).2 / Nat.gcd (rd (inB xs.toNat xo.toNat (2 * j + 1) (j + 1)) (xo.toNat ^ (2 * j + 1))).2 10)) = false := hle
          have hrm : ((2 * j + 1 : Nat) : Int).tmod 2 = 1 := by rw [Int.tmod_eq_emod_of_nonneg (by omega)]; omega
          have h10 : ((1 : Int) == 0) = false := rfl
          have lb : ln ≤ 100 := by omega
          have l0 : 0 ≤ ln := by omega
          have k1 : (1 : Int) ≤ 10 := by decide
          have k2 : (10 : Int) ≤ 100 := by decide
          by_cases hj0 : j = 0
          · have hgt : ¬ ((2 * j + 1 : Nat) : Int) > 1 := by omega
            simp only [hr, hvt, hca, c0, c1, c2, c3, hvl, hrm, h10, lb, l0, k1, k2, hgt, hvm, e1, sm1, hcw0, hv, hv2, hl5, hk, hm1, hk1, hs1, ho1, hx1, hx2, hx3, hvd, key_ag, key_eq, n20, bne_self_eq_false, beq_self_eq_true, Bool.and_self, Bool.not_true, Bool.not_false, Bool.false_eq_true, Int.le_refl, Int.reduceToNat, h_ChanceFalse, c_ChanceFalse, h_ChanceWithin, c_ChanceWithin, h_ChanceMajority, c_ChanceMajority, h_vPlus, c_vPlus, h_vLess, c_vLess, Int.toNat_natCast, ↓SP, SQ, Gam.add, stepM, callC, argC, lendO, nmBy, nmC, likeL, likeB, plainOb, offs, exL, X, F, trP, trO, stepD, stepW, newA, SV.tr, SV.trL, fz, allP, Ob.tr, loadA, cellsA, SV.cells, binA, binI, eqOut, isSl, isPt, natOf, callee, snap, SV.refsL, SV.refs, thaw, fzAll, loA, hiA, elemOf, partsA, buildA, putCells, ↓reduceIte, reduceCtorEq, okCell, Nat.reduceAdd, Nat.reduceEqDiff, Nat.reduceSub, Nat.reduceMul, Nat.reduceLeDiff, Nat.reduceLT, Nat.reduceBEq, PV.scal, PV.scalL, SV.scal, SV.scalL, Ob.scal, PV.isCell, pure', resO]
            exact finA_val (by simp [retA, rvA, mkE_cons, mk_nil, mkO_cons, mkO_nil, loadA, SV.tr, SV.trL, nmF, rn_nil, rn_cons1, rn_cons2, plainOb, SV.refsL, SV.refs, Ob.refs, X, F, List.range_succ, mkO, setO_mk]) (by simp [SV.tr, SV.trL])
          · obtain ⟨i, rfl⟩ : ∃ i, j = i + 1 := ⟨j - 1, by omega⟩
            have hgt : ((2 * (i + 1) + 1 : Nat) : Int) > 1 := by omega
            have hi : i < 6 := by omega
            obtain ⟨hvt2, hca2⟩ := ca_rd hi hdx
            obtain ⟨f1, f2, f3⟩ := ca_b hi hdx
            have f0 : (0 : Int) ≤ ((rd (inB xs.toNat xo.toNat (2 * i + 1) (i + 1)) (xo.toNat ^ (2 * i + 1))).1 : Int) := Int.natCast_nonneg _
            have hle2 := less_of hdx (c := ln.toNat) (by omega) hi
            rw [hn i (by omega)] at hle2
            have hvl2 : decide ((rd (inB xs.toNat xo.toNat (2 * i + 1) (i + 1)) (xo.toNat ^ (2 * i + 1))).1 * (10 / Nat.gcd (rd (inB xs.toNat xo.toNat (2 * i + 1) (i + 1)) (xo.toNat ^ (2 * i + 1))).2 10) < ln.toNat * ((rd (inB xs.toNat xo.toNat (2 * i + 1) (i + 1)) (xo.toNat ^ (2 * i + 1))).2 / Nat.gcd (rd (inB xs.toNat xo.toNat (2 * i + 1) (i + 1)) (xo.toNat ^ (2 * i + 1))).2 10)) = true := hle2
            have hw2 : IntKind.i64.wrap (((2 * (i + 1) + 1 : Nat) : Int) - 2) = ((2 * i + 1 : Nat) : Int) := by rw [wrap64 (by omega) (by omega)]; omega
            simp only [hr, hvt, hca, c0, c1, c2, c3, hvl, hrm, h10, lb, l0, k1, k2, hgt, hw2, hvt2, hca2, f0, f1, f2, f3, hvl2, hvm, e1, sm1, hcw0, hv, hv2, hl5, hk, hm1, hk1, hs1, ho1, hx1, hx2, hx3, hvd, key_ag, key_eq, n20, bne_self_eq_false, beq_self_eq_true, Bool.and_self, Bool.not_true, Bool.not_false, Bool.false_eq_true, Int.le_refl, Int.reduceToNat, h_ChanceFalse, c_ChanceFalse, h_ChanceWithin, c_ChanceWithin, h_ChanceMajority, c_ChanceMajority, h_vPlus, c_vPlus, h_vLess, c_vLess, Int.toNat_natCast, ↓SP, SQ, Gam.add, stepM, callC, argC, lendO, nmBy, nmC, likeL, likeB, plainOb, offs, exL, X, F, trP, trO, stepD, stepW, newA, SV.tr, SV.trL, fz, allP, Ob.tr, loadA, cellsA, SV.cells, binA, binI, eqOut, isSl, isPt, natOf, callee, snap, SV.refsL, SV.refs, thaw, fzAll, loA, hiA, elemOf, partsA, buildA, putCells, ↓reduceIte, reduceCtorEq, okCell, Nat.reduceAdd, Nat.reduceEqDiff, Nat.reduceSub, Nat.reduceMul, Nat.reduceLeDiff, Nat.reduceLT, Nat.reduceBEq, PV.scal, PV.scalL, SV.scal, SV.scalL, Ob.scal, PV.isCell, pure', resO]
            exact finA_val (by simp [retA, rvA, mkE_cons, mk_nil, mkO_cons, mkO_nil, loadA, SV.tr, SV.trL, nmF, rn_nil, rn_cons1, rn_cons2, plainOb, SV.refsL, SV.refs, Ob.refs, X, F, List.range_succ, mkO, setO_mk]) (by simp [SV.tr, SV.trL])
      | true =>
        obtain ⟨_, gm1, gm2⟩ := vM_out hvm
        obtain ⟨w1, w2, _, _⟩ := mj_half gm1 gm2
        obtain ⟨hvh, hcw⟩ := wi_half hvm
        simp only [hvm, w1, w2, hvh, hcw, e1, sm1, hcw0, hv, hv2, hl5, hk, hm1, hk1, hs1, ho1, hx1, hx2, hx3, hvd, key_ag, key_eq, n20, bne_self_eq_false, beq_self_eq_true, Bool.and_self, Bool.not_true, Bool.not_false, Bool.false_eq_true, Int.le_refl, Int.reduceToNat, h_ChanceFalse, c_ChanceFalse, h_ChanceWithin, c_ChanceWithin, h_ChanceMajority, c_ChanceMajority, h_vPlus, c_vPlus, h_vLess, c_vLess, ↓SP, SQ, Gam.add, stepM, callC, argC, lendO, nmBy, nmC, likeL, likeB, plainOb, offs, exL, X, F, trP, trO, stepD, stepW, newA, SV.tr, SV.trL, fz, allP, Ob.tr, loadA, cellsA, SV.cells, binA, binI, eqOut, isSl, isPt, natOf, callee, snap, SV.refsL, SV.refs, thaw, fzAll, loA, hiA, elemOf, partsA, buildA, putCells, ↓reduceIte, reduceCtorEq, okCell, Nat.reduceAdd, Nat.reduceEqDiff, Nat.reduceSub, Nat.reduceMul, Nat.reduceLeDiff, Nat.reduceLT, Nat.reduceBEq, PV.scal, PV.scalL, SV.scal, SV.scalL, Ob.scal, PV.isCell, pure', resO]
        rcases rfV_out xs xo ln 10 with hr | ⟨j, hj, hr, hdx, hdl, hp, hn⟩
        · simp only [hr, hvm, w1, w2, hvh, hcw, e1, sm1, hcw0, hv, hv2, hl5, hk, hm1, hk1, hs1, ho1, hx1, hx2, hx3, hvd, key_ag, key_eq, n20, bne_self_eq_false, beq_self_eq_true, Bool.and_self, Bool.not_true, Bool.not_false, Bool.false_eq_true, Int.le_refl, Int.reduceToNat, h_ChanceFalse, c_ChanceFalse, h_ChanceWithin, c_ChanceWithin, h_ChanceMajority, c_ChanceMajority, h_vPlus, c_vPlus, h_vLess, c_vLess, ↓SP, SQ, Gam.add, stepM, callC, argC, lendO, nmBy, nmC, likeL, likeB, plainOb, offs, exL, X, F, trP, trO, stepD, stepW, newA, SV.tr, SV.trL, fz, allP, Ob.tr, loadA, cellsA, SV.cells, binA, binI, eqOut, isSl, isPt, natOf, callee, snap, SV.refsL, SV.refs, thaw, fzAll, loA, hiA, elemOf, partsA, buildA, putCells, ↓reduceIte, reduceCtorEq, okCell, Nat.reduceAdd, Nat.reduceEqDiff, Nat.reduceSub, Nat.reduceMul, Nat.reduceLeDiff, Nat.reduceLT, Nat.reduceBEq, PV.scal, PV.scalL, SV.scal, SV.scalL, Ob.scal, PV.isCell, pure', resO]
          exact finA_val (by simp [retA, rvA, mkE_cons, mk_nil, mkO_cons, mkO_nil, loadA, SV.tr, SV.trL, nmF, rn_nil, rn_cons1, rn_cons2, plainOb, SV.refsL, SV.refs, Ob.refs, X, F, List.range_succ, mkO, setO_mk]) (by simp [SV.tr, SV.trL])
        · obtain ⟨l1, l2, l3, l4⟩ := isD_out hdl
          obtain ⟨hvt, hca⟩ := ca_rd hj hdx
          obtain ⟨c1, c2, c3⟩ := ca_b hj hdx
          have c0 : (0 : Int) ≤ ((rd (inB xs.toNat xo.toNat (2 * j + 1) (j + 1)) (xo.toNat ^ (2 * j + 1))).1 : Int) := Int.natCast_nonneg _
          have hle := less_of hdx (c := ln.toNat) (by omega) hj
          have e10 : (10 : Int).toNat = 10 := rfl
          rw [e10] at hp hn
          rw [hp] at hle
          have hvl : decide ((rd (inB xs.toNat xo.toNat (2 * j + 1) (j + 1)) (xo.toNat ^ (2 * j + 1))).1 * (10 / Nat.gcd (rd (inB xs.toNat xo.toNat (2 * j + 1) (j + 1)) (xo.toNat ^ (2 * j + 1))).2 10) < ln.toNat * ((rd (inB xs.toNat xo.toNat (2 * j + 1) (j + 1)) (xo.toNat ^ (2 * j + 1))).2 / Nat.gcd (rd (inB xs.toNat xo.toNat (2 * j + 1) (j + 1)) (xo.toNat ^ (2 * j + 1))).2 10)) = false := hle
          have hrm : ((2 * j + 1 : Nat) : Int).tmod 2 = 1 := by rw [Int.tmod_eq_emod_of_nonneg (by omega)]; omega
          have h10 : ((1 : Int) == 0) = false := rfl
          have lb : ln ≤ 100 := by omega
          have l0 : 0 ≤ ln := by omega
          have k1 : (1 : Int) ≤ 10 := by decide
          have k2 : (10 : Int) ≤ 100 := by decide
          by_cases hj0 : j = 0
          · have hgt : ¬ ((2 * j + 1 : Nat) : Int) > 1 := by omega
            simp only [hr, hvt, hca, c0, c1, c2, c3, hvl, hrm, h10, lb, l0, k1, k2, hgt, hvm, w1, w2, hvh, hcw, e1, sm1, hcw0, hv, hv2, hl5, hk, hm1, hk1, hs1, ho1, hx1, hx2, hx3, hvd, key_ag, key_eq, n20, bne_self_eq_false, beq_self_eq_true, Bool.and_self, Bool.not_true, Bool.not_false, Bool.false_eq_true, Int.le_refl, Int.reduceToNat, h_ChanceFalse, c_ChanceFalse, h_ChanceWithin, c_ChanceWithin, h_ChanceMajority, c_ChanceMajority, h_vPlus, c_vPlus, h_vLess, c_vLess, Int.toNat_natCast, ↓SP, SQ, Gam.add, stepM, callC, argC, lendO, nmBy, nmC, likeL, likeB, plainOb, offs, exL, X, F, trP, trO, stepD, stepW, newA, SV.tr, SV.trL, fz, allP, Ob.tr, loadA, cellsA, SV.cells, binA, binI, eqOut, isSl, isPt, natOf, callee, snap, SV.refsL, SV.refs, thaw, fzAll, loA, hiA, elemOf, partsA, buildA, putCells, ↓reduceIte, reduceCtorEq, okCell, Nat.reduceAdd, Nat.reduceEqDiff, Nat.reduceSub, Nat.reduceMul, Nat.reduceLeDiff, Nat.reduceLT, Nat.reduceBEq, PV.scal, PV.scalL, SV.scal, SV.scalL, Ob.scal, PV.isCell, pure', resO]
            exact finA_val (by simp [retA, rvA, mkE_cons, mk_nil, mkO_cons, mkO_nil, loadA, SV.tr, SV.trL, nmF, rn_nil, rn_cons1, rn_cons2, plainOb, SV.refsL, SV.refs, Ob.refs, X, F, List.range_succ, mkO, setO_mk]) (by simp [SV.tr, SV.trL])
          · obtain ⟨i, rfl⟩ : ∃ i, j = i + 1 := ⟨j - 1, by omega⟩
            have hgt : ((2 * (i + 1) + 1 : Nat) : Int) > 1 := by omega
            have hi : i < 6 := by omega
            obtain ⟨hvt2, hca2⟩ := ca_rd hi hdx
            obtain ⟨f1, f2, f3⟩ := ca_b hi hdx
            have f0 : (0 : Int) ≤ ((rd (inB xs.toNat xo.toNat (2 * i + 1) (i + 1)) (xo.toNat ^ (2 * i + 1))).1 : Int) := Int.natCast_nonneg _
            have hle2 := less_of hdx (c := ln.toNat) (by omega) hi
            rw [hn i (by omega)] at hle2
            have hvl2 : decide ((rd (inB xs.toNat xo.toNat (2 * i + 1) (i + 1)) (xo.toNat ^ (2 * i + 1))).1 * (10 / Nat.gcd (rd (inB xs.toNat xo.toNat (2 * i + 1) (i + 1)) (xo.toNat ^ (2 * i + 1))).2 10) < ln.toNat * ((rd (inB xs.toNat xo.toNat (2 * i + 1) (i + 1)) (xo.toNat ^ (2 * i + 1))).2 / Nat.gcd (rd (inB xs.toNat xo.toNat (2 * i + 1) (i + 1)) (xo.toNat ^ (2 * i + 1))).2 10)) = true := hle2
            have hw2 : IntKind.i64.wrap (((2 * (i + 1) + 1 : Nat) : Int) - 2) = ((2 * i + 1 : Nat) : Int) := by rw [wrap64 (by omega) (by omega)]; omega
            simp only [hr, hvt, hca, c0, c1, c2, c3, hvl, hrm, h10, lb, l0, k1, k2, hgt, hw2, hvt2, hca2, f0, f1, f2, f3, hvl2, hvm, w1, w2, hvh, hcw, e1, sm1, hcw0, hv, hv2, hl5, hk, hm1, hk1, hs1, ho1, hx1, hx2, hx3, hvd, key_ag, key_eq, n20, bne_self_eq_false, beq_self_eq_true, Bool.and_self, Bool.not_true, Bool.not_false, Bool.false_eq_true, Int.le_refl, Int.reduceToNat, h_ChanceFalse, c_ChanceFalse, h_ChanceWithin, c_ChanceWithin, h_ChanceMajority, c_ChanceMajority, h_vPlus, c_vPlus, h_vLess, c_vLess, Int.toNat_natCast, ↓SP, SQ, Gam.add, stepM, callC, argC, lendO, nmBy, nmC, likeL, likeB, plainOb, offs, exL, X, F, trP, trO, stepD, stepW, newA, SV.tr, SV.trL, fz, allP, Ob.tr, loadA, cellsA, SV.cells, binA, binI, eqOut, isSl, isPt, natOf, callee, snap, SV.refsL, SV.refs, thaw, fzAll, loA, hiA, elemOf, partsA, buildA, putCells, ↓reduceIte, reduceCtorEq, okCell, Nat.reduceAdd, Nat.reduceEqDiff, Nat.reduceSub, Nat.reduceMul, Nat.reduceLeDiff, Nat.reduceLT, Nat.reduceBEq, PV.scal, PV.scalL, SV.scal, SV.scalL, Ob.scal, PV.isCell, pure', resO]
            exact finA_val (by simp [retA, rvA, mkE_cons, mk_nil, mkO_cons, mkO_nil, loadA, SV.tr, SV.trL, nmF, rn_nil, rn_cons1, rn_cons2, plainOb, SV.refsL, SV.refs, Ob.refs, X, F, List.range_succ, mkO, setO_mk]) (by simp [SV.tr, SV.trL])
end Go.Proofs.Ytmbljmolegalhaa.Pam
