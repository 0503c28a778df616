/- A part of the proof that stands in this folder: a small machine whose steps are shown to be the steps of the model, or walks of functions by it. No condition of its own. -/
import Derived.Test.YtpobnchalcokoaaDoorARH
set_option linter.unusedVariables false
set_option linter.unusedSimpArgs false
namespace Go.Proofs.YtpobnchalcokoaaDoor.Pam
open Go
def smS (s : ByteArray) : Nat → Nat
  | 0 => 7
  | i + 1 => (41 * smS s i + (bAt s i).toNat + 1) % 999979
theorem smS_lt (s : ByteArray) : ∀ i, smS s i < 999979
  | 0 => (by decide : (7 : Nat) < 999979)
  | i + 1 => Nat.mod_lt _ (by decide)
def sumB (s : ByteArray) : Nat := smS s s.size
theorem sumB_lt (s : ByteArray) : sumB s < 999979 := smS_lt s _
def sealB (s : ByteArray) : ByteArray := s ++ ⟨#[35]⟩ ++ numS (sumB s : Int)
theorem sealB_size (s : ByteArray) : s.size + 1 ≤ (sealB s).size ∧ (sealB s).size ≤ s.size + 9 := by
  have h := sumB_lt s
  have := numS_size (n := (sumB s : Int)) (by omega) (by omega)
  have e : (⟨#[35]⟩ : ByteArray).size = 1 := rfl
  unfold sealB
  rw [ByteArray.size_append, ByteArray.size_append]
  omega
def apV (s : ByteArray) : ByteArray × Bool := if 4000 < s.size ∨ hasB s 35 = true ∨ 4000 < (sealB s).size then (⟨#[]⟩, false) else (sealB s, true)
def fiV (n : Int) : ByteArray × Bool := if -999999 ≤ n ∧ n ≤ 999999 then (numS n, true) else (⟨#[]⟩, false)
def a_inI : AFn := ⟨3, 
  .seq (.reg [⟨some 6, none, .d (.mv (.c (.bool false)))⟩])
  (.seq (.reg [⟨some 7, none, .d (.mv (.t 1))⟩,
    ⟨some 8, none, .d (.mv (.t 0))⟩,
    ⟨some 9, none, .d (.bin .arith .leq (.t 7) (.t 8))⟩,
    ⟨some 10, none, .d (.mv (.t 9))⟩,
    ⟨some 11, some (10, true), .d (.mv (.t 0))⟩,
    ⟨some 12, some (10, true), .d (.mv (.t 2))⟩,
    ⟨some 13, some (10, true), .d (.bin .arith .leq (.t 11) (.t 12))⟩,
    ⟨some 14, none, .d (.pick (.t 10) (.t 13) (.c (.bool false)))⟩,
    ⟨some 6, none, .d (.mv (.t 14))⟩])
  (.ret)), [.tmp 6]⟩
def n_inI : Nat → Option Ann := fun _ => none
abbrev k_inI : List Nat := [0, 1, 2, 6]
abbrev o_inI : List Nat := []
def a_l1InI : AFn := ⟨3, 
  .seq (.reg [⟨some 6, none, .d (.mv (.c (.bool false)))⟩])
  (.seq (.reg [⟨some 7, none, .d (.mv (.t 0))⟩,
    ⟨some 8, none, .d (.mv (.t 1))⟩,
    ⟨some 9, none, .d (.bin .arith .geq (.t 7) (.t 8))⟩,
    ⟨some 10, none, .d (.mv (.t 9))⟩,
    ⟨some 11, some (10, true), .d (.mv (.t 0))⟩,
    ⟨some 12, some (10, true), .d (.mv (.t 2))⟩,
    ⟨some 13, some (10, true), .d (.bin .arith .leq (.t 11) (.t 12))⟩,
    ⟨some 14, none, .d (.pick (.t 10) (.t 13) (.c (.bool false)))⟩,
    ⟨some 6, none, .d (.mv (.t 14))⟩])
  (.ret)), [.tmp 6]⟩
def n_l1InI : Nat → Option Ann := fun _ => none
abbrev k_l1InI : List Nat := [0, 1, 2, 6]
abbrev o_l1InI : List Nat := []
def c_inI : Con := pure' fun
  | [.p (.int .i64 n), .p (.int .i64 a), .p (.int .i64 b)] => some (.p (.bool (decide (a ≤ n ∧ n ≤ b))), [])
  | _ => none
theorem s_inI {P : Program} (hm : P.follows .mixedOrders = true) {Γ : Gam} (hΓ : GS P Γ) {n : FuncId} (is : Is P n a_inI)  : Says P n c_inI := by
  refine Says.pure fun args r fs h => ?_
  split at h
  case h_2 => cases h
  rename_i x a b
  simp only [Option.some.injEq, Prod.mk.injEq] at h
  obtain ⟨rfl, rfl⟩ := h
  by_cases h1 : a ≤ x
  · by_cases h2 : x ≤ b
    · refine is.go hm hΓ k_inI o_inI (by simp [a_inI]) ?_
      simp only [a_inI, h1, h2, List.zipIdx_cons, List.zipIdx_nil, ↓SP, SQ, Gam.add, stepM, callC, argC, lendO, nmBy, nmC, likeL, likeB, plainOb, offs, exL, X, F, trP, trO, stepD, stepW, newA, SV.tr, SV.trL, fz, allP, Ob.tr, loadA, cellsA, SV.cells, binA, binI, eqOut, isSl, isPt, natOf, callee, snap, SV.refsL, SV.refs, thaw, fzAll, loA, hiA, elemOf, partsA, buildA, putCells, ↓reduceIte, reduceCtorEq, okCell, Nat.reduceAdd, Nat.reduceEqDiff, Nat.reduceSub, Nat.reduceMul, Nat.reduceLeDiff, Nat.reduceLT, Nat.reduceBEq, PV.scal, PV.scalL, SV.scal, SV.scalL, Ob.scal, PV.isCell, pure', resO]
      exact finA_val (by simp [h1, h2, retA, rvA, mkE_cons, mk_nil, mkO_cons, mkO_nil, loadA, SV.tr, SV.trL, nmF, rn_nil, rn_cons1, rn_cons2, plainOb, SV.refsL, SV.refs, Ob.refs, X, F, List.range_succ, mkO, setO_mk]) (by simp [SV.tr, SV.trL])
    · refine is.go hm hΓ k_inI o_inI (by simp [a_inI]) ?_
      simp only [a_inI, h1, h2, List.zipIdx_cons, List.zipIdx_nil, ↓SP, SQ, Gam.add, stepM, callC, argC, lendO, nmBy, nmC, likeL, likeB, plainOb, offs, exL, X, F, trP, trO, stepD, stepW, newA, SV.tr, SV.trL, fz, allP, Ob.tr, loadA, cellsA, SV.cells, binA, binI, eqOut, isSl, isPt, natOf, callee, snap, SV.refsL, SV.refs, thaw, fzAll, loA, hiA, elemOf, partsA, buildA, putCells, ↓reduceIte, reduceCtorEq, okCell, Nat.reduceAdd, Nat.reduceEqDiff, Nat.reduceSub, Nat.reduceMul, Nat.reduceLeDiff, Nat.reduceLT, Nat.reduceBEq, PV.scal, PV.scalL, SV.scal, SV.scalL, Ob.scal, PV.isCell, pure', resO]
      exact finA_val (by simp [h1, h2, retA, rvA, mkE_cons, mk_nil, mkO_cons, mkO_nil, loadA, SV.tr, SV.trL, nmF, rn_nil, rn_cons1, rn_cons2, plainOb, SV.refsL, SV.refs, Ob.refs, X, F, List.range_succ, mkO, setO_mk]) (by simp [SV.tr, SV.trL])
  · refine is.go hm hΓ k_inI o_inI (by simp [a_inI]) ?_
    simp only [a_inI, h1, List.zipIdx_cons, List.zipIdx_nil, ↓SP, SQ, Gam.add, stepM, callC, argC, lendO, nmBy, nmC, likeL, likeB, plainOb, offs, exL, X, F, trP, trO, stepD, stepW, newA, SV.tr, SV.trL, fz, allP, Ob.tr, loadA, cellsA, SV.cells, binA, binI, eqOut, isSl, isPt, natOf, callee, snap, SV.refsL, SV.refs, thaw, fzAll, loA, hiA, elemOf, partsA, buildA, putCells, ↓reduceIte, reduceCtorEq, okCell, Nat.reduceAdd, Nat.reduceEqDiff, Nat.reduceSub, Nat.reduceMul, Nat.reduceLeDiff, Nat.reduceLT, Nat.reduceBEq, PV.scal, PV.scalL, SV.scal, SV.scalL, Ob.scal, PV.isCell, pure', resO]
    exact finA_val (by simp [h1, retA, rvA, mkE_cons, mk_nil, mkO_cons, mkO_nil, loadA, SV.tr, SV.trL, nmF, rn_nil, rn_cons1, rn_cons2, plainOb, SV.refsL, SV.refs, Ob.refs, X, F, List.range_succ, mkO, setO_mk]) (by simp [SV.tr, SV.trL])
theorem s_l1InI {P : Program} (hm : P.follows .mixedOrders = true) {Γ : Gam} (hΓ : GS P Γ) {n : FuncId} (is : Is P n a_l1InI)  : Says P n c_inI := by
  refine Says.pure fun args r fs h => ?_
  split at h
  case h_2 => cases h
  rename_i x a b
  simp only [Option.some.injEq, Prod.mk.injEq] at h
  obtain ⟨rfl, rfl⟩ := h
  by_cases h1 : a ≤ x
  · by_cases h2 : x ≤ b
    · refine is.go hm hΓ k_l1InI o_l1InI (by simp [a_l1InI]) ?_
      simp only [a_l1InI, h1, h2, List.zipIdx_cons, List.zipIdx_nil, ↓SP, SQ, Gam.add, stepM, callC, argC, lendO, nmBy, nmC, likeL, likeB, plainOb, offs, exL, X, F, trP, trO, stepD, stepW, newA, SV.tr, SV.trL, fz, allP, Ob.tr, loadA, cellsA, SV.cells, binA, binI, eqOut, isSl, isPt, natOf, callee, snap, SV.refsL, SV.refs, thaw, fzAll, loA, hiA, elemOf, partsA, buildA, putCells, ↓reduceIte, reduceCtorEq, okCell, Nat.reduceAdd, Nat.reduceEqDiff, Nat.reduceSub, Nat.reduceMul, Nat.reduceLeDiff, Nat.reduceLT, Nat.reduceBEq, PV.scal, PV.scalL, SV.scal, SV.scalL, Ob.scal, PV.isCell, pure', resO]
      exact finA_val (by simp [h1, h2, retA, rvA, mkE_cons, mk_nil, mkO_cons, mkO_nil, loadA, SV.tr, SV.trL, nmF, rn_nil, rn_cons1, rn_cons2, plainOb, SV.refsL, SV.refs, Ob.refs, X, F, List.range_succ, mkO, setO_mk]) (by simp [SV.tr, SV.trL])
    · refine is.go hm hΓ k_l1InI o_l1InI (by simp [a_l1InI]) ?_
      simp only [a_l1InI, h1, h2, List.zipIdx_cons, List.zipIdx_nil, ↓SP, SQ, Gam.add, stepM, callC, argC, lendO, nmBy, nmC, likeL, likeB, plainOb, offs, exL, X, F, trP, trO, stepD, stepW, newA, SV.tr, SV.trL, fz, allP, Ob.tr, loadA, cellsA, SV.cells, binA, binI, eqOut, isSl, isPt, natOf, callee, snap, SV.refsL, SV.refs, thaw, fzAll, loA, hiA, elemOf, partsA, buildA, putCells, ↓reduceIte, reduceCtorEq, okCell, Nat.reduceAdd, Nat.reduceEqDiff, Nat.reduceSub, Nat.reduceMul, Nat.reduceLeDiff, Nat.reduceLT, Nat.reduceBEq, PV.scal, PV.scalL, SV.scal, SV.scalL, Ob.scal, PV.isCell, pure', resO]
      exact finA_val (by simp [h1, h2, retA, rvA, mkE_cons, mk_nil, mkO_cons, mkO_nil, loadA, SV.tr, SV.trL, nmF, rn_nil, rn_cons1, rn_cons2, plainOb, SV.refsL, SV.refs, Ob.refs, X, F, List.range_succ, mkO, setO_mk]) (by simp [SV.tr, SV.trL])
  · refine is.go hm hΓ k_l1InI o_l1InI (by simp [a_l1InI]) ?_
    simp only [a_l1InI, h1, List.zipIdx_cons, List.zipIdx_nil, ↓SP, SQ, Gam.add, stepM, callC, argC, lendO, nmBy, nmC, likeL, likeB, plainOb, offs, exL, X, F, trP, trO, stepD, stepW, newA, SV.tr, SV.trL, fz, allP, Ob.tr, loadA, cellsA, SV.cells, binA, binI, eqOut, isSl, isPt, natOf, callee, snap, SV.refsL, SV.refs, thaw, fzAll, loA, hiA, elemOf, partsA, buildA, putCells, ↓reduceIte, reduceCtorEq, okCell, Nat.reduceAdd, Nat.reduceEqDiff, Nat.reduceSub, Nat.reduceMul, Nat.reduceLeDiff, Nat.reduceLT, Nat.reduceBEq, PV.scal, PV.scalL, SV.scal, SV.scalL, Ob.scal, PV.isCell, pure', resO]
    exact finA_val (by simp [h1, retA, rvA, mkE_cons, mk_nil, mkO_cons, mkO_nil, loadA, SV.tr, SV.trL, nmF, rn_nil, rn_cons1, rn_cons2, plainOb, SV.refsL, SV.refs, Ob.refs, X, F, List.range_succ, mkO, setO_mk]) (by simp [SV.tr, SV.trL])
def vaV (l : List Int) (i : Int) : Int := if i < l.length then l.getD i.toNat 0 else (i * 7 + l.length) % 256
def a_vAt : AFn := ⟨2, 
  .seq (.reg [⟨some 4, none, .d (.mv (.c (.int .i64 0)))⟩])
  (.seq (.seq (.reg [⟨some 5, none, .d (.mv (.t 1))⟩,
    ⟨some 6, none, .d (.mv (.t 0))⟩,
    ⟨some 7, none, .d (.len (.t 6))⟩,
    ⟨some 8, none, .d (.bin .arith .lss (.t 5) (.t 7))⟩])
  (.cond (.t 8) (.seq (.reg [⟨some 9, none, .d (.mv (.t 0))⟩,
     ⟨some 10, none, .d (.mv (.t 1))⟩,
     ⟨some 11, none, .d (.ia 1 (.t 9) (.t 10))⟩,
     ⟨some 12, none, .d (.load false 1 (.t 11))⟩,
     ⟨some 13, none, .d (.conv .i64 (.t 12))⟩,
     ⟨some 4, none, .d (.mv (.t 13))⟩])
   (.ret)) (.skip)))
  (.seq (.reg [⟨some 14, none, .d (.mv (.t 1))⟩,
    ⟨some 15, none, .d (.bin .arith .mul (.t 14) (.c (.int .i64 7)))⟩,
    ⟨some 16, none, .d (.mv (.t 0))⟩,
    ⟨some 17, none, .d (.len (.t 16))⟩,
    ⟨some 18, none, .d (.bin .arith .add (.t 15) (.t 17))⟩,
    ⟨some 19, none, .d (.bin .arith .rem (.t 18) (.c (.int .i64 256)))⟩,
    ⟨some 4, none, .d (.mv (.t 19))⟩])
  (.ret))), [.tmp 4]⟩
def n_vAt : Nat → Option Ann := fun _ => none
abbrev k_vAt : List Nat := [0, 1, 4, 8]
abbrev o_vAt : List Nat := []
def c_vAt : Con := pure' fun
  | [.p v, .p (.int .i64 i)] => match slU v with
    | some l => if l.length ≤ 65536 ∧ 0 ≤ i ∧ i ≤ 1000 then some (.p (.int .i64 (vaV l i)), []) else none
    | none => none
  | _ => none
theorem s_vAt {P : Program} (hm : P.follows .mixedOrders = true) {Γ : Gam} (hΓ : GS P Γ) {n : FuncId} (is : Is P n a_vAt)  : Says P n c_vAt := by
  refine Says.pure fun args r fs h => ?_
  split at h
  case h_2 => cases h
  rename_i v i
  split at h
  case h_2 => cases h
  rename_i l hv
  split at h
  case isFalse => cases h
  rename_i hc
  obtain ⟨hl, i0, i1⟩ := hc
  simp only [Option.some.injEq, Prod.mk.injEq] at h
  obtain ⟨rfl, rfl⟩ := h
  by_cases hlt : i < l.length
  · have e : vaV l i = l.getD i.toNat 0 := by unfold vaV; rw [if_pos hlt]
    rw [e]
    obtain ⟨hv1, hr⟩ := slU_out hv
    rcases hv1 with rfl | ⟨rfl, rfl⟩
    · have hg := u8s_get (l := l) (i := i.toNat) (by omega)
      have hb : 0 ≤ l.getD i.toNat 0 ∧ l.getD i.toNat 0 ≤ 255 := by
        rw [show l.getD i.toNat 0 = l[i.toNat]'(by omega) by simp [show i.toNat < l.length by omega]]
        exact hr _ (List.getElem_mem _)
      have hw : IntKind.i64.wrap (l.getD i.toNat 0) = l.getD i.toNat 0 := wrap64 (by omega) (by omega)
      refine is.go hm hΓ k_vAt o_vAt (by simp [a_vAt]) ?_
      simp only [a_vAt, lenA_sl, u8s_len, hlt, i0, hg, hw, List.zipIdx_cons, List.zipIdx_nil, ↓SP, SQ, Gam.add, stepM, callC, argC, lendO, nmBy, nmC, likeL, likeB, plainOb, offs, exL, X, F, trP, trO, stepD, stepW, newA, SV.tr, SV.trL, fz, allP, Ob.tr, loadA, cellsA, SV.cells, binA, binI, eqOut, isSl, isPt, natOf, callee, snap, SV.refsL, SV.refs, thaw, fzAll, loA, hiA, elemOf, partsA, buildA, putCells, ↓reduceIte, reduceCtorEq, okCell, Nat.reduceAdd, Nat.reduceEqDiff, Nat.reduceSub, Nat.reduceMul, Nat.reduceLeDiff, Nat.reduceLT, Nat.reduceBEq, PV.scal, PV.scalL, SV.scal, SV.scalL, Ob.scal, PV.isCell, pure', resO]
      exact finA_val (by simp [retA, rvA, mkE_cons, mk_nil, mkO_cons, mkO_nil, loadA, SV.tr, SV.trL, nmF, rn_nil, rn_cons1, rn_cons2, plainOb, SV.refsL, SV.refs, Ob.refs, X, F, List.range_succ, mkO, setO_mk]) (by simp [SV.tr, SV.trL])
    · simp at hlt; omega
  · have e : vaV l i = (i * 7 + l.length) % 256 := by unfold vaV; rw [if_neg hlt]
    rw [e]
    have hlv := slU_len' hv
    have w1 : IntKind.i64.wrap (i * 7) = i * 7 := wrap64 (by omega) (by omega)
    have w2 : IntKind.i64.wrap (i * 7 + l.length) = i * 7 + l.length := wrap64 (by omega) (by omega)
    have d1 : (i * 7 + (l.length : Int)).tmod 256 = (i * 7 + l.length) % 256 := Int.tmod_eq_emod_of_nonneg (by omega)
    have w3 : IntKind.i64.wrap ((i * 7 + (l.length : Int)) % 256) = (i * 7 + l.length) % 256 := wrap64 (by omega) (by omega)
    refine is.go hm hΓ k_vAt o_vAt (by simp [a_vAt]) ?_
    simp only [a_vAt, hlv, hlt, w1, w2, d1, w3, (by decide : ¬ (256 : Int) = 0), List.zipIdx_cons, List.zipIdx_nil, ↓SP, SQ, Gam.add, stepM, callC, argC, lendO, nmBy, nmC, likeL, likeB, plainOb, offs, exL, X, F, trP, trO, stepD, stepW, newA, SV.tr, SV.trL, fz, allP, Ob.tr, loadA, cellsA, SV.cells, binA, binI, eqOut, isSl, isPt, natOf, callee, snap, SV.refsL, SV.refs, thaw, fzAll, loA, hiA, elemOf, partsA, buildA, putCells, ↓reduceIte, reduceCtorEq, okCell, Nat.reduceAdd, Nat.reduceEqDiff, Nat.reduceSub, Nat.reduceMul, Nat.reduceLeDiff, Nat.reduceLT, Nat.reduceBEq, PV.scal, PV.scalL, SV.scal, SV.scalL, Ob.scal, PV.isCell, pure', resO]
    exact finA_val (by simp [retA, rvA, mkE_cons, mk_nil, mkO_cons, mkO_nil, loadA, SV.tr, SV.trL, nmF, rn_nil, rn_cons1, rn_cons2, plainOb, SV.refsL, SV.refs, Ob.refs, X, F, List.range_succ, mkO, setO_mk]) (by simp [SV.tr, SV.trL])
def a_checksum : AFn := ⟨1, 
  .seq (.reg [⟨some 2, none, .d (.mv (.c (.int .i64 0)))⟩])
  (.seq (.reg [⟨some 3, none, .d (.mv (.c (.int .i64 7)))⟩])
  (.seq (.seq (.reg [⟨some 5, none, .d (.mv (.t 0))⟩,
    ⟨some 6, none, .d (.lenS (.t 5))⟩,
    ⟨some 7, none, .d (.mv (.c (.int .i64 0)))⟩])
  (.block 0 (.loop (.seq (.reg [⟨some 8, none, .d (.bin .arith .lss (.t 7) (.t 6))⟩])
    (.seq (.cond (.t 8) (.skip) (.exit 0))
    (.seq (.block 1 (.seq (.reg [⟨some 9, none, .d (.mv (.t 7))⟩,
       ⟨some 4, none, .d (.mv (.t 9))⟩])
     (.reg [⟨some 10, none, .d (.mv (.t 3))⟩,
       ⟨some 11, none, .d (.bin .arith .mul (.c (.int .i64 41)) (.t 10))⟩,
       ⟨some 12, none, .d (.mv (.t 0))⟩,
       ⟨some 13, none, .d (.mv (.t 4))⟩,
       ⟨some 14, none, .d (.idxS (.t 12) (.t 13))⟩,
       ⟨some 15, none, .d (.conv .i64 (.t 14))⟩,
       ⟨some 16, none, .d (.bin .arith .add (.t 11) (.t 15))⟩,
       ⟨some 17, none, .d (.bin .arith .add (.t 16) (.c (.int .i64 1)))⟩,
       ⟨some 18, none, .d (.bin .arith .rem (.t 17) (.c (.int .i64 999979)))⟩,
       ⟨some 3, none, .d (.mv (.t 18))⟩])))
    (.reg [⟨some 19, none, .d (.bin .arith .add (.t 7) (.c (.int .i64 1)))⟩,
      ⟨some 7, none, .d (.mv (.t 19))⟩])))))))
  (.seq (.reg [⟨some 20, none, .d (.mv (.t 3))⟩,
    ⟨some 2, none, .d (.mv (.t 20))⟩])
  (.ret)))), [.tmp 2]⟩
def n_checksum : Nat → Option Ann := fun _ => none
abbrev k_checksum : List Nat := [0, 2, 3, 4, 6, 7, 8]
abbrev o_checksum : List Nat := []
def a_l1Sum : AFn := ⟨1, 
  .seq (.reg [⟨some 2, none, .d (.mv (.c (.int .i64 0)))⟩])
  (.seq (.reg [⟨some 3, none, .d (.mv (.c (.int .i64 7)))⟩])
  (.seq (.seq (.reg [⟨some 4, none, .d (.mv (.c (.int .i64 0)))⟩])
  (.block 0 (.loop (.seq (.seq (.reg [⟨some 5, none, .d (.mv (.t 4))⟩,
      ⟨some 6, none, .d (.mv (.t 0))⟩,
      ⟨some 7, none, .d (.lenS (.t 6))⟩,
      ⟨some 8, none, .d (.bin .arith .lss (.t 5) (.t 7))⟩])
    (.cond (.t 8) (.skip) (.exit 0)))
    (.seq (.block 1 (.reg [⟨some 11, none, .d (.mv (.t 3))⟩,
       ⟨some 12, none, .d (.bin .arith .mul (.c (.int .i64 41)) (.t 11))⟩,
       ⟨some 13, none, .d (.mv (.t 0))⟩,
       ⟨some 14, none, .d (.mv (.t 4))⟩,
       ⟨some 15, none, .d (.idxS (.t 13) (.t 14))⟩,
       ⟨some 16, none, .d (.conv .i64 (.t 15))⟩,
       ⟨some 17, none, .d (.bin .arith .add (.t 12) (.t 16))⟩,
       ⟨some 18, none, .d (.bin .arith .add (.t 17) (.c (.int .i64 1)))⟩,
       ⟨some 19, none, .d (.bin .arith .rem (.t 18) (.c (.int .i64 999979)))⟩,
       ⟨some 3, none, .d (.mv (.t 19))⟩]))
    (.reg [⟨some 9, none, .d (.mv (.t 4))⟩,
      ⟨some 10, none, .d (.bin .arith .add (.t 9) (.c (.int .i64 1)))⟩,
      ⟨some 4, none, .d (.mv (.t 10))⟩]))))))
  (.seq (.reg [⟨some 20, none, .d (.mv (.t 3))⟩,
    ⟨some 2, none, .d (.mv (.t 20))⟩])
  (.ret)))), [.tmp 2]⟩
def n_l1Sum : Nat → Option Ann := fun _ => none
abbrev k_l1Sum : List Nat := [0, 2, 3, 4, 8]
abbrev o_l1Sum : List Nat := []
def c_checksum : Con := pure' fun
  | [.p (.str s)] => if s.size ≤ 5000 then some (.p (.int .i64 (sumB s)), []) else none
  | _ => none
theorem s_checksum {P : Program} (hm : P.follows .mixedOrders = true) {Γ : Gam} (hΓ : GS P Γ) {n : FuncId} (is : Is P n a_checksum)  : Says P n c_checksum := by
  refine Says.pure fun args r fs h => ?_
  split at h
  case h_2 => cases h
  rename_i s
  split at h
  case isFalse => cases h
  rename_i hs
  simp only [Option.some.injEq, Prod.mk.injEq] at h
  obtain ⟨rfl, rfl⟩ := h
  refine is.go hm hΓ k_checksum o_checksum (by simp [a_checksum]) ?_
  simp only [a_checksum, List.zipIdx_cons, List.zipIdx_nil, ↓SP, SQ, Gam.add, stepM, callC, argC, lendO, nmBy, nmC, likeL, likeB, plainOb, offs, exL, X, F, trP, trO, stepD, stepW, newA, SV.tr, SV.trL, fz, allP, Ob.tr, loadA, cellsA, SV.cells, binA, binI, eqOut, isSl, isPt, natOf, callee, snap, SV.refsL, SV.refs, thaw, fzAll, loA, hiA, elemOf, partsA, buildA, putCells, ↓reduceIte, reduceCtorEq, okCell, Nat.reduceAdd, Nat.reduceEqDiff, Nat.reduceSub, Nat.reduceMul, Nat.reduceLeDiff, Nat.reduceLT, Nat.reduceBEq, PV.scal, PV.scalL, SV.scal, SV.scalL, Ob.scal, PV.isCell, pure', resO]
  refine loop_at (fun t : Nat × SV × SV => mkEnv [(0, .p (.str s)), (2, si 0), (3, si (smS s t.1 : Nat)), (4, t.2.1), (6, si s.size), (7, si t.1), (8, t.2.2)])
    (fun t => mkO [])
    (fun t => t.1 ≤ s.size) (fun t => s.size - t.1) (0, .junk, .junk) (by simp) (by simp [smS]) (by simp) ?_
  rintro ⟨i, x4, x8⟩ hi R hR hN
  simp only at hi
  by_cases hlt : i < s.size
  · have hgt : (i : Int) < s.size := by omega
    have hw : IntKind.i64.wrap ((i : Int) + 1) = ((i + 1 : Nat) : Int) := by rw [wrap64 (by omega) (by omega)]; omega
    have hb := bget hlt
    have hi0 : (0 : Int) ≤ i := by omega
    have hq : (bAt s i).toNat < 256 := (bAt s i).toNat_lt
    have hm1 := smS_lt s i
    have hsi : smS s (i + 1) = (41 * smS s i + (bAt s i).toNat + 1) % 999979 := rfl
    generalize smS s i = m at *
    have v1 : IntKind.i64.wrap ((bAt s i).toNat : Int) = (bAt s i).toNat := wrap64 (by omega) (by omega)
    have v2 : IntKind.i64.wrap (41 * (m : Int)) = 41 * m := wrap64 (by omega) (by omega)
    have v3 : IntKind.i64.wrap (41 * (m : Int) + (bAt s i).toNat) = 41 * m + (bAt s i).toNat := wrap64 (by omega) (by omega)
    have v4 : IntKind.i64.wrap (41 * (m : Int) + (bAt s i).toNat + 1) = 41 * m + (bAt s i).toNat + 1 := wrap64 (by omega) (by omega)
    have v5 : (41 * (m : Int) + (bAt s i).toNat + 1).tmod 999979 = (smS s (i + 1) : Nat) := by rw [Int.tmod_eq_emod_of_nonneg (by omega), hsi]; omega
    have v6 : IntKind.i64.wrap ((smS s (i + 1) : Nat) : Int) = (smS s (i + 1) : Nat) := wrap64 (by omega) (by have := smS_lt s (i + 1); omega)
    simp only [hgt, hw, hb, hi0, v1, v2, v3, v4, v5, v6, Int.toNat_natCast, (by decide : ¬ (999979 : Int) = 0), ↓SP, SQ, Gam.add, stepM, callC, argC, lendO, nmBy, nmC, likeL, likeB, plainOb, offs, exL, X, F, trP, trO, stepD, stepW, newA, SV.tr, SV.trL, fz, allP, Ob.tr, loadA, cellsA, SV.cells, binA, binI, eqOut, isSl, isPt, natOf, callee, snap, SV.refsL, SV.refs, thaw, fzAll, loA, hiA, elemOf, partsA, buildA, putCells, ↓reduceIte, reduceCtorEq, okCell, Nat.reduceAdd, Nat.reduceEqDiff, Nat.reduceSub, Nat.reduceMul, Nat.reduceLeDiff, Nat.reduceLT, Nat.reduceBEq, PV.scal, PV.scalL, SV.scal, SV.scalL, Ob.scal, PV.isCell, pure', resO]
    exact hN (i + 1, _, _) _ _ (by simp only; omega) (by simp only; omega) rfl rfl
  · have he : i = s.size := by omega
    subst he
    have hgt : ¬ ((s.size : Nat) : Int) < s.size := by omega
    simp only [hgt, ↓SP, SQ, Gam.add, stepM, callC, argC, lendO, nmBy, nmC, likeL, likeB, plainOb, offs, exL, X, F, trP, trO, stepD, stepW, newA, SV.tr, SV.trL, fz, allP, Ob.tr, loadA, cellsA, SV.cells, binA, binI, eqOut, isSl, isPt, natOf, callee, snap, SV.refsL, SV.refs, thaw, fzAll, loA, hiA, elemOf, partsA, buildA, putCells, ↓reduceIte, reduceCtorEq, okCell, Nat.reduceAdd, Nat.reduceEqDiff, Nat.reduceSub, Nat.reduceMul, Nat.reduceLeDiff, Nat.reduceLT, Nat.reduceBEq, PV.scal, PV.scalL, SV.scal, SV.scalL, Ob.scal, PV.isCell, pure', resO]
    refine hR _ _ _ (by intro h; cases h) ?_
    simp only [↓SP, SQ, Gam.add, stepM, callC, argC, lendO, nmBy, nmC, likeL, likeB, plainOb, offs, exL, X, F, trP, trO, stepD, stepW, newA, SV.tr, SV.trL, fz, allP, Ob.tr, loadA, cellsA, SV.cells, binA, binI, eqOut, isSl, isPt, natOf, callee, snap, SV.refsL, SV.refs, thaw, fzAll, loA, hiA, elemOf, partsA, buildA, putCells, ↓reduceIte, reduceCtorEq, okCell, Nat.reduceAdd, Nat.reduceEqDiff, Nat.reduceSub, Nat.reduceMul, Nat.reduceLeDiff, Nat.reduceLT, Nat.reduceBEq, PV.scal, PV.scalL, SV.scal, SV.scalL, Ob.scal, PV.isCell, pure', resO]
    exact finA_val (by simp [sumB, retA, rvA, mkE_cons, mk_nil, mkO_cons, mkO_nil, loadA, SV.tr, SV.trL, nmF, rn_nil, rn_cons1, rn_cons2, plainOb, SV.refsL, SV.refs, Ob.refs, X, F, List.range_succ, mkO, setO_mk]) (by simp [SV.tr, SV.trL])
theorem s_l1Sum {P : Program} (hm : P.follows .mixedOrders = true) {Γ : Gam} (hΓ : GS P Γ) {n : FuncId} (is : Is P n a_l1Sum)  : Says P n c_checksum := by
  refine Says.pure fun args r fs h => ?_
  split at h
  case h_2 => cases h
  rename_i s
  split at h
  case isFalse => cases h
  rename_i hs
  simp only [Option.some.injEq, Prod.mk.injEq] at h
  obtain ⟨rfl, rfl⟩ := h
  refine is.go hm hΓ k_l1Sum o_l1Sum (by simp [a_l1Sum]) ?_
  simp only [a_l1Sum, List.zipIdx_cons, List.zipIdx_nil, ↓SP, SQ, Gam.add, stepM, callC, argC, lendO, nmBy, nmC, likeL, likeB, plainOb, offs, exL, X, F, trP, trO, stepD, stepW, newA, SV.tr, SV.trL, fz, allP, Ob.tr, loadA, cellsA, SV.cells, binA, binI, eqOut, isSl, isPt, natOf, callee, snap, SV.refsL, SV.refs, thaw, fzAll, loA, hiA, elemOf, partsA, buildA, putCells, ↓reduceIte, reduceCtorEq, okCell, Nat.reduceAdd, Nat.reduceEqDiff, Nat.reduceSub, Nat.reduceMul, Nat.reduceLeDiff, Nat.reduceLT, Nat.reduceBEq, PV.scal, PV.scalL, SV.scal, SV.scalL, Ob.scal, PV.isCell, pure', resO]
  refine loop_at (fun t : Nat × SV => mkEnv [(0, .p (.str s)), (2, si 0), (3, si (smS s t.1 : Nat)), (4, si t.1), (8, t.2)])
    (fun t => mkO [])
    (fun t => t.1 ≤ s.size) (fun t => s.size - t.1) (0, .junk) (by simp) (by simp [smS]) (by simp) ?_
  rintro ⟨i, x8⟩ hi R hR hN
  simp only at hi
  by_cases hlt : i < s.size
  · have hgt : (i : Int) < s.size := by omega
    have hw : IntKind.i64.wrap ((i : Int) + 1) = ((i + 1 : Nat) : Int) := by rw [wrap64 (by omega) (by omega)]; omega
    have hb := bget hlt
    have hi0 : (0 : Int) ≤ i := by omega
    have hq : (bAt s i).toNat < 256 := (bAt s i).toNat_lt
    have hm1 := smS_lt s i
    have hsi : smS s (i + 1) = (41 * smS s i + (bAt s i).toNat + 1) % 999979 := rfl
    generalize smS s i = m at *
    have v1 : IntKind.i64.wrap ((bAt s i).toNat : Int) = (bAt s i).toNat := wrap64 (by omega) (by omega)
    have v2 : IntKind.i64.wrap (41 * (m : Int)) = 41 * m := wrap64 (by omega) (by omega)
    have v3 : IntKind.i64.wrap (41 * (m : Int) + (bAt s i).toNat) = 41 * m + (bAt s i).toNat := wrap64 (by omega) (by omega)
    have v4 : IntKind.i64.wrap (41 * (m : Int) + (bAt s i).toNat + 1) = 41 * m + (bAt s i).toNat + 1 := wrap64 (by omega) (by omega)
    have v5 : (41 * (m : Int) + (bAt s i).toNat + 1).tmod 999979 = (smS s (i + 1) : Nat) := by rw [Int.tmod_eq_emod_of_nonneg (by omega), hsi]; omega
    have v6 : IntKind.i64.wrap ((smS s (i + 1) : Nat) : Int) = (smS s (i + 1) : Nat) := wrap64 (by omega) (by have := smS_lt s (i + 1); omega)
    simp only [hgt, hw, hb, hi0, v1, v2, v3, v4, v5, v6, Int.toNat_natCast, (by decide : ¬ (999979 : Int) = 0), ↓SP, SQ, Gam.add, stepM, callC, argC, lendO, nmBy, nmC, likeL, likeB, plainOb, offs, exL, X, F, trP, trO, stepD, stepW, newA, SV.tr, SV.trL, fz, allP, Ob.tr, loadA, cellsA, SV.cells, binA, binI, eqOut, isSl, isPt, natOf, callee, snap, SV.refsL, SV.refs, thaw, fzAll, loA, hiA, elemOf, partsA, buildA, putCells, ↓reduceIte, reduceCtorEq, okCell, Nat.reduceAdd, Nat.reduceEqDiff, Nat.reduceSub, Nat.reduceMul, Nat.reduceLeDiff, Nat.reduceLT, Nat.reduceBEq, PV.scal, PV.scalL, SV.scal, SV.scalL, Ob.scal, PV.isCell, pure', resO]
    exact hN (i + 1, _) _ _ (by simp only; omega) (by simp only; omega) rfl rfl
  · have he : i = s.size := by omega
    subst he
    have hgt : ¬ ((s.size : Nat) : Int) < s.size := by omega
    simp only [hgt, ↓SP, SQ, Gam.add, stepM, callC, argC, lendO, nmBy, nmC, likeL, likeB, plainOb, offs, exL, X, F, trP, trO, stepD, stepW, newA, SV.tr, SV.trL, fz, allP, Ob.tr, loadA, cellsA, SV.cells, binA, binI, eqOut, isSl, isPt, natOf, callee, snap, SV.refsL, SV.refs, thaw, fzAll, loA, hiA, elemOf, partsA, buildA, putCells, ↓reduceIte, reduceCtorEq, okCell, Nat.reduceAdd, Nat.reduceEqDiff, Nat.reduceSub, Nat.reduceMul, Nat.reduceLeDiff, Nat.reduceLT, Nat.reduceBEq, PV.scal, PV.scalL, SV.scal, SV.scalL, Ob.scal, PV.isCell, pure', resO]
    refine hR _ _ _ (by intro h; cases h) ?_
    simp only [↓SP, SQ, Gam.add, stepM, callC, argC, lendO, nmBy, nmC, likeL, likeB, plainOb, offs, exL, X, F, trP, trO, stepD, stepW, newA, SV.tr, SV.trL, fz, allP, Ob.tr, loadA, cellsA, SV.cells, binA, binI, eqOut, isSl, isPt, natOf, callee, snap, SV.refsL, SV.refs, thaw, fzAll, loA, hiA, elemOf, partsA, buildA, putCells, ↓reduceIte, reduceCtorEq, okCell, Nat.reduceAdd, Nat.reduceEqDiff, Nat.reduceSub, Nat.reduceMul, Nat.reduceLeDiff, Nat.reduceLT, Nat.reduceBEq, PV.scal, PV.scalL, SV.scal, SV.scalL, Ob.scal, PV.isCell, pure', resO]
    exact finA_val (by simp [sumB, retA, rvA, mkE_cons, mk_nil, mkO_cons, mkO_nil, loadA, SV.tr, SV.trL, nmF, rn_nil, rn_cons1, rn_cons2, plainOb, SV.refsL, SV.refs, Ob.refs, X, F, List.range_succ, mkO, setO_mk]) (by simp [SV.tr, SV.trL])
def a_seal (f_l1Sum : FuncId) (f_num : FuncId) : AFn := ⟨1, 
  .seq (.reg [⟨some 2, none, .d (.mv (.c (.str ⟨#[]⟩)))⟩])
  (.seq (.reg [⟨some 3, none, .d (.mv (.t 0))⟩,
    ⟨some 4, none, .d (.bin .str .add (.t 3) (.c (.str ⟨#[35]⟩)))⟩,
    ⟨some 5, none, .d (.mv (.t 0))⟩,
    ⟨some 6, none, .d (.call (.f f_l1Sum) [(.t 5)])⟩,
    ⟨some 7, none, .d (.call (.f f_num) [(.t 6)])⟩,
    ⟨some 8, none, .d (.bin .str .add (.t 4) (.t 7))⟩,
    ⟨some 2, none, .d (.mv (.t 8))⟩])
  (.ret)), [.tmp 2]⟩
def n_seal : Nat → Option Ann := fun _ => none
abbrev k_seal : List Nat := [0, 2]
abbrev o_seal : List Nat := []
def c_seal : Con := pure' fun
  | [.p (.str s)] => if s.size ≤ 5000 then some (.p (.str (sealB s)), []) else none
  | _ => none
theorem s_seal {P : Program} (hm : P.follows .mixedOrders = true) {Γ : Gam} (hΓ : GS P Γ) {n : FuncId} {f_l1Sum : FuncId} {f_num : FuncId} (is : Is P n (a_seal f_l1Sum f_num)) (h_l1Sum : Γ f_l1Sum = c_checksum) (h_num : Γ f_num = c_num)  : Says P n c_seal := by
  refine Says.pure fun args r fs h => ?_
  split at h
  case h_2 => cases h
  rename_i s
  split at h
  case isFalse => cases h
  rename_i hs
  simp only [Option.some.injEq, Prod.mk.injEq] at h
  obtain ⟨rfl, rfl⟩ := h
  have hm1 := sumB_lt s
  have q1 : (-1000000 : Int) ≤ (sumB s : Int) := by omega
  have q2 : (sumB s : Int) ≤ 1000000 := by omega
  have e : (⟨#[35]⟩ : ByteArray).size = 1 := rfl
  have hb1 : binS .add s ⟨#[35]⟩ = some (.str (s ++ ⟨#[35]⟩)) := binS_add (by omega)
  have hb2 : binS .add (s ++ ⟨#[35]⟩) (numS (sumB s : Int)) = some (.str (sealB s)) := binS_add (by have := numS_size q1 q2; rw [ByteArray.size_append]; omega)
  refine is.go hm hΓ k_seal o_seal (by simp [a_seal]) ?_
  simp only [a_seal, h_l1Sum, c_checksum, h_num, c_num, hs, q1, q2, hb1, hb2, List.zipIdx_cons, List.zipIdx_nil, ↓SP, SQ, Gam.add, stepM, callC, argC, lendO, nmBy, nmC, likeL, likeB, plainOb, offs, exL, X, F, trP, trO, stepD, stepW, newA, SV.tr, SV.trL, fz, allP, Ob.tr, loadA, cellsA, SV.cells, binA, binI, eqOut, isSl, isPt, natOf, callee, snap, SV.refsL, SV.refs, thaw, fzAll, loA, hiA, elemOf, partsA, buildA, putCells, ↓reduceIte, reduceCtorEq, okCell, Nat.reduceAdd, Nat.reduceEqDiff, Nat.reduceSub, Nat.reduceMul, Nat.reduceLeDiff, Nat.reduceLT, Nat.reduceBEq, PV.scal, PV.scalL, SV.scal, SV.scalL, Ob.scal, PV.isCell, pure', resO]
  exact finA_val (by simp [retA, rvA, mkE_cons, mk_nil, mkO_cons, mkO_nil, loadA, SV.tr, SV.trL, nmF, rn_nil, rn_cons1, rn_cons2, plainOb, SV.refsL, SV.refs, Ob.refs, X, F, List.range_succ, mkO, setO_mk]) (by simp [SV.tr, SV.trL])
def a_specAppend (f_stands : FuncId) (f_seal : FuncId) : AFn := ⟨1, 
  .seq (.reg [⟨some 2, none, .d (.mv (.c (.str ⟨#[]⟩)))⟩,
    ⟨some 3, none, .d (.mv (.c (.bool false)))⟩])
  (.seq (.seq (.reg [⟨some 4, none, .d (.mv (.t 0))⟩,
    ⟨some 5, none, .d (.lenS (.t 4))⟩,
    ⟨some 6, none, .d (.bin .arith .gtr (.t 5) (.c (.int .i64 4000)))⟩,
    ⟨some 7, none, .d (.mv (.t 6))⟩,
    ⟨some 8, some (7, false), .d (.mv (.t 0))⟩,
    ⟨some 9, some (7, false), .d (.call (.f f_stands) [(.t 8), (.c (.int .u8 35))])⟩,
    ⟨some 10, none, .d (.pick (.t 7) (.c (.bool true)) (.t 9))⟩,
    ⟨some 11, none, .d (.mv (.t 10))⟩,
    ⟨some 12, some (11, false), .d (.mv (.t 0))⟩,
    ⟨some 13, some (11, false), .d (.call (.f f_seal) [(.t 12)])⟩,
    ⟨some 14, some (11, false), .d (.lenS (.t 13))⟩,
    ⟨some 15, some (11, false), .d (.bin .arith .gtr (.t 14) (.c (.int .i64 4000)))⟩,
    ⟨some 16, none, .d (.pick (.t 11) (.c (.bool true)) (.t 15))⟩])
  (.cond (.t 16) (.seq (.reg [⟨some 2, none, .d (.mv (.c (.str ⟨#[]⟩)))⟩,
     ⟨some 3, none, .d (.mv (.c (.bool false)))⟩])
   (.ret)) (.skip)))
  (.seq (.reg [⟨some 17, none, .d (.mv (.t 0))⟩,
    ⟨some 18, none, .d (.call (.f f_seal) [(.t 17)])⟩,
    ⟨some 2, none, .d (.mv (.t 18))⟩,
    ⟨some 3, none, .d (.mv (.c (.bool true)))⟩])
  (.ret))), [.tmp 2, .tmp 3]⟩
def n_specAppend : Nat → Option Ann := fun _ => none
abbrev k_specAppend : List Nat := [0, 2, 3, 16]
abbrev o_specAppend : List Nat := []
def c_specAppend : Con := pure' fun
  | [.p (.str s)] => if s.size ≤ 4000 then some (.tp [.p (.str (apV s).1), .p (.bool (apV s).2)], []) else none
  | _ => none
theorem s_specAppend {P : Program} (hm : P.follows .mixedOrders = true) {Γ : Gam} (hΓ : GS P Γ) {n : FuncId} {f_stands : FuncId} {f_seal : FuncId} (is : Is P n (a_specAppend f_stands f_seal)) (h_stands : Γ f_stands = c_stands) (h_seal : Γ f_seal = c_seal)  : Says P n c_specAppend := by
  refine Says.pure fun args r fs h => ?_
  split at h
  case h_2 => cases h
  rename_i s
  split at h
  case isFalse => cases h
  rename_i hs
  simp only [Option.some.injEq, Prod.mk.injEq] at h
  obtain ⟨rfl, rfl⟩ := h
  have h1 : ¬ (s.size : Int) > 4000 := by omega
  have h1' : ¬ 4000 < s.size := by omega
  have h5 : s.size ≤ 5000 := by omega
  have e35 : (35 : Nat).toUInt8 = 35 := rfl
  by_cases h2 : hasB s 35 = true
  · have e : apV s = (⟨#[]⟩, false) := by unfold apV; rw [if_pos (.inr (.inl h2))]
    rw [e]
    refine is.go hm hΓ k_specAppend o_specAppend (by simp [a_specAppend]) ?_
    simp only [a_specAppend, h_stands, c_stands, h_seal, c_seal, h1, h5, h2, e35, Int.reduceToNat, Int.reduceLE, and_self, true_and, List.zipIdx_cons, List.zipIdx_nil, ↓SP, SQ, Gam.add, stepM, callC, argC, lendO, nmBy, nmC, likeL, likeB, plainOb, offs, exL, X, F, trP, trO, stepD, stepW, newA, SV.tr, SV.trL, fz, allP, Ob.tr, loadA, cellsA, SV.cells, binA, binI, eqOut, isSl, isPt, natOf, callee, snap, SV.refsL, SV.refs, thaw, fzAll, loA, hiA, elemOf, partsA, buildA, putCells, ↓reduceIte, reduceCtorEq, okCell, Nat.reduceAdd, Nat.reduceEqDiff, Nat.reduceSub, Nat.reduceMul, Nat.reduceLeDiff, Nat.reduceLT, Nat.reduceBEq, PV.scal, PV.scalL, SV.scal, SV.scalL, Ob.scal, PV.isCell, pure', resO]
    exact finA_val (by simp [retA, rvA, mkE_cons, mk_nil, mkO_cons, mkO_nil, loadA, SV.tr, SV.trL, nmF, rn_nil, rn_cons1, rn_cons2, plainOb, SV.refsL, SV.refs, Ob.refs, X, F, List.range_succ, mkO, setO_mk]) (by simp [SV.tr, SV.trL])
  · have h2' : hasB s 35 = false := by simpa using h2
    by_cases h3 : ((sealB s).size : Int) > 4000
    · have e : apV s = (⟨#[]⟩, false) := by unfold apV; rw [if_pos (.inr (.inr (by omega)))]
      rw [e]
      refine is.go hm hΓ k_specAppend o_specAppend (by simp [a_specAppend]) ?_
      simp only [a_specAppend, h_stands, c_stands, h_seal, c_seal, h1, h5, h2', h3, e35, Int.reduceToNat, Int.reduceLE, and_self, true_and, List.zipIdx_cons, List.zipIdx_nil, ↓SP, SQ, Gam.add, stepM, callC, argC, lendO, nmBy, nmC, likeL, likeB, plainOb, offs, exL, X, F, trP, trO, stepD, stepW, newA, SV.tr, SV.trL, fz, allP, Ob.tr, loadA, cellsA, SV.cells, binA, binI, eqOut, isSl, isPt, natOf, callee, snap, SV.refsL, SV.refs, thaw, fzAll, loA, hiA, elemOf, partsA, buildA, putCells, ↓reduceIte, reduceCtorEq, okCell, Nat.reduceAdd, Nat.reduceEqDiff, Nat.reduceSub, Nat.reduceMul, Nat.reduceLeDiff, Nat.reduceLT, Nat.reduceBEq, PV.scal, PV.scalL, SV.scal, SV.scalL, Ob.scal, PV.isCell, pure', resO]
      exact finA_val (by simp [retA, rvA, mkE_cons, mk_nil, mkO_cons, mkO_nil, loadA, SV.tr, SV.trL, nmF, rn_nil, rn_cons1, rn_cons2, plainOb, SV.refsL, SV.refs, Ob.refs, X, F, List.range_succ, mkO, setO_mk]) (by simp [SV.tr, SV.trL])
    · have e : apV s = (sealB s, true) := by unfold apV; rw [if_neg]; rw [h2']; simp; omega
      rw [e]
      refine is.go hm hΓ k_specAppend o_specAppend (by simp [a_specAppend]) ?_
      simp only [a_specAppend, h_stands, c_stands, h_seal, c_seal, h1, h5, h2', h3, e35, Int.reduceToNat, Int.reduceLE, and_self, true_and, List.zipIdx_cons, List.zipIdx_nil, ↓SP, SQ, Gam.add, stepM, callC, argC, lendO, nmBy, nmC, likeL, likeB, plainOb, offs, exL, X, F, trP, trO, stepD, stepW, newA, SV.tr, SV.trL, fz, allP, Ob.tr, loadA, cellsA, SV.cells, binA, binI, eqOut, isSl, isPt, natOf, callee, snap, SV.refsL, SV.refs, thaw, fzAll, loA, hiA, elemOf, partsA, buildA, putCells, ↓reduceIte, reduceCtorEq, okCell, Nat.reduceAdd, Nat.reduceEqDiff, Nat.reduceSub, Nat.reduceMul, Nat.reduceLeDiff, Nat.reduceLT, Nat.reduceBEq, PV.scal, PV.scalL, SV.scal, SV.scalL, Ob.scal, PV.isCell, pure', resO]
      exact finA_val (by simp [retA, rvA, mkE_cons, mk_nil, mkO_cons, mkO_nil, loadA, SV.tr, SV.trL, nmF, rn_nil, rn_cons1, rn_cons2, plainOb, SV.refsL, SV.refs, Ob.refs, X, F, List.range_succ, mkO, setO_mk]) (by simp [SV.tr, SV.trL])
def a_specFormat (f_l1InI : FuncId) (f_num : FuncId) : AFn := ⟨1, 
  .seq (.reg [⟨some 2, none, .d (.mv (.c (.str ⟨#[]⟩)))⟩,
    ⟨some 3, none, .d (.mv (.c (.bool false)))⟩])
  (.seq (.seq (.reg [⟨some 4, none, .d (.mv (.t 0))⟩,
    ⟨some 5, none, .d (.call (.f f_l1InI) [(.t 4), (.c (.int .i64 (-999999))), (.c (.int .i64 999999))])⟩,
    ⟨some 6, none, .d (.not (.t 5))⟩])
  (.cond (.t 6) (.seq (.reg [⟨some 2, none, .d (.mv (.c (.str ⟨#[]⟩)))⟩,
     ⟨some 3, none, .d (.mv (.c (.bool false)))⟩])
   (.ret)) (.skip)))
  (.seq (.reg [⟨some 7, none, .d (.mv (.t 0))⟩,
    ⟨some 8, none, .d (.call (.f f_num) [(.t 7)])⟩,
    ⟨some 2, none, .d (.mv (.t 8))⟩,
    ⟨some 3, none, .d (.mv (.c (.bool true)))⟩])
  (.ret))), [.tmp 2, .tmp 3]⟩
def n_specFormat : Nat → Option Ann := fun _ => none
abbrev k_specFormat : List Nat := [0, 2, 3, 6]
abbrev o_specFormat : List Nat := []
def c_specFormat : Con := pure' fun
  | [.p (.int .i64 n)] => some (.tp [.p (.str (fiV n).1), .p (.bool (fiV n).2)], [])
  | _ => none
theorem s_specFormat {P : Program} (hm : P.follows .mixedOrders = true) {Γ : Gam} (hΓ : GS P Γ) {n : FuncId} {f_l1InI : FuncId} {f_num : FuncId} (is : Is P n (a_specFormat f_l1InI f_num)) (h_l1InI : Γ f_l1InI = c_inI) (h_num : Γ f_num = c_num)  : Says P n c_specFormat := by
  refine Says.pure fun args r fs h => ?_
  split at h
  case h_2 => cases h
  rename_i x
  simp only [Option.some.injEq, Prod.mk.injEq] at h
  obtain ⟨rfl, rfl⟩ := h
  by_cases hc : -999999 ≤ x ∧ x ≤ 999999
  · have e : fiV x = (numS x, true) := by unfold fiV; rw [if_pos hc]
    rw [e]
    have q1 : -1000000 ≤ x := by omega
    have q2 : x ≤ 1000000 := by omega
    refine is.go hm hΓ k_specFormat o_specFormat (by simp [a_specFormat]) ?_
    simp only [a_specFormat, h_l1InI, c_inI, h_num, c_num, hc, q1, q2, List.zipIdx_cons, List.zipIdx_nil, ↓SP, SQ, Gam.add, stepM, callC, argC, lendO, nmBy, nmC, likeL, likeB, plainOb, offs, exL, X, F, trP, trO, stepD, stepW, newA, SV.tr, SV.trL, fz, allP, Ob.tr, loadA, cellsA, SV.cells, binA, binI, eqOut, isSl, isPt, natOf, callee, snap, SV.refsL, SV.refs, thaw, fzAll, loA, hiA, elemOf, partsA, buildA, putCells, ↓reduceIte, reduceCtorEq, okCell, Nat.reduceAdd, Nat.reduceEqDiff, Nat.reduceSub, Nat.reduceMul, Nat.reduceLeDiff, Nat.reduceLT, Nat.reduceBEq, PV.scal, PV.scalL, SV.scal, SV.scalL, Ob.scal, PV.isCell, pure', resO]
    exact finA_val (by simp [retA, rvA, mkE_cons, mk_nil, mkO_cons, mkO_nil, loadA, SV.tr, SV.trL, nmF, rn_nil, rn_cons1, rn_cons2, plainOb, SV.refsL, SV.refs, Ob.refs, X, F, List.range_succ, mkO, setO_mk]) (by simp [SV.tr, SV.trL])
  · have e : fiV x = (⟨#[]⟩, false) := by unfold fiV; rw [if_neg hc]
    rw [e]
    refine is.go hm hΓ k_specFormat o_specFormat (by simp [a_specFormat]) ?_
    simp only [a_specFormat, h_l1InI, c_inI, h_num, c_num, hc, List.zipIdx_cons, List.zipIdx_nil, ↓SP, SQ, Gam.add, stepM, callC, argC, lendO, nmBy, nmC, likeL, likeB, plainOb, offs, exL, X, F, trP, trO, stepD, stepW, newA, SV.tr, SV.trL, fz, allP, Ob.tr, loadA, cellsA, SV.cells, binA, binI, eqOut, isSl, isPt, natOf, callee, snap, SV.refsL, SV.refs, thaw, fzAll, loA, hiA, elemOf, partsA, buildA, putCells, ↓reduceIte, reduceCtorEq, okCell, Nat.reduceAdd, Nat.reduceEqDiff, Nat.reduceSub, Nat.reduceMul, Nat.reduceLeDiff, Nat.reduceLT, Nat.reduceBEq, PV.scal, PV.scalL, SV.scal, SV.scalL, Ob.scal, PV.isCell, pure', resO]
    exact finA_val (by simp [retA, rvA, mkE_cons, mk_nil, mkO_cons, mkO_nil, loadA, SV.tr, SV.trL, nmF, rn_nil, rn_cons1, rn_cons2, plainOb, SV.refsL, SV.refs, Ob.refs, X, F, List.range_succ, mkO, setO_mk]) (by simp [SV.tr, SV.trL])
theorem pkY_b {l : List Int} (hl : ∀ x ∈ l, 0 ≤ x ∧ x ≤ 255) {n : Int} {c : Cu} (h0 : 0 ≤ c.1) (hn : 0 < n) : 0 ≤ pkY l n c ∧ pkY l n c < n := by
  have h1 := nxR_b hl h0
  have h2 := nxR_b hl (c := nxC l c) (by simp only [nxC]; omega)
  unfold pkY
  exact ⟨Int.tmod_nonneg _ (by omega), Int.tmod_lt_of_pos _ hn⟩
def dfL (l : List Int) : List Int := [0, 1, -1, 10, 999999, -999999, 1000000, -1000000, pkY l 1000 (0, 0) - 500]
def dfV (l : List Int) : Int := amV l (dfL l) (nxC l (nxC l (0, 0)))
theorem dfV_b {l : List Int} (hl : ∀ x ∈ l, 0 ≤ x ∧ x ≤ 255) : -1000000 ≤ dfV l ∧ dfV l ≤ 1000000 := by
  have hb := pkY_b hl (n := 1000) (c := (0, 0)) (Int.le_refl 0) (by decide)
  have h := amV_mem (xs := dfL l) hl (c := nxC l (nxC l (0, 0))) (by simp [nxC]) (by simp [dfL])
  unfold dfV
  generalize amV l (dfL l) (nxC l (nxC l (0, 0))) = x at h
  simp only [dfL, List.mem_cons, List.not_mem_nil, or_false] at h
  omega
def a_DrawFormatInt (f_pick : FuncId) (f_among : FuncId) : AFn := ⟨1, 
  .seq (.reg [⟨some 2, none, .d (.mv (.c (.int .i64 0)))⟩])
  (.seq (.reg [⟨some 4, none, .d (.mv (.t 0))⟩,
    ⟨some 5, none, .d (.build [.nilsl, .int .i64 0, .int .u64 0] [(0, 1, (.t 4))])⟩,
    ⟨some 6, none, .w (.box 3 (.t 5))⟩,
    ⟨some 3, none, .d (.mv (.t 6))⟩])
  (.seq (.reg [⟨some 7, none, .d (.mv (.t 3))⟩,
    ⟨some 8, none, .d (.mv (.t 3))⟩,
    ⟨some 9, none, .w (.callL (.f f_pick) [(.t 8), (.c (.int .i64 1000))] [6] 0 false)⟩,
    ⟨some 10, none, .d (.bin .arith .sub (.t 9) (.c (.int .i64 500)))⟩,
    ⟨some 11, none, .w (.bslice 1 [.int .i64 0, .int .i64 0, .int .i64 0, .int .i64 0, .int .i64 0, .int .i64 0, .int .i64 0, .int .i64 0, .int .i64 0] [(0, (.c (.int .i64 0))), (1, (.c (.int .i64 1))), (2, (.c (.int .i64 (-1)))), (3, (.c (.int .i64 10))), (4, (.c (.int .i64 999999))), (5, (.c (.int .i64 (-999999)))), (6, (.c (.int .i64 1000000))), (7, (.c (.int .i64 (-1000000)))), (8, (.t 10))])⟩,
    ⟨some 12, none, .w (.callL (.f f_among) [(.t 7), (.t 11)] [6] 0 true)⟩,
    ⟨some 2, none, .d (.mv (.t 12))⟩])
  (.ret))), [.tmp 2]⟩
def n_DrawFormatInt : Nat → Option Ann := fun d => if d = 9 then some ⟨[6], 0, false⟩ else if d = 12 then some ⟨[6], 0, true⟩ else none
abbrev k_DrawFormatInt : List Nat := [0, 2, 3]
abbrev o_DrawFormatInt : List Nat := [6, 11]
def c_DrawFormatInt : Con := pure' fun
  | [.p v] => match slU v with
    | some l => some (.p (.int .i64 (dfV l)), [])
    | none => none
  | _ => none
theorem s_DrawFormatInt {P : Program} (hm : P.follows .mixedOrders = true) {Γ : Gam} (hΓ : GS P Γ) {n : FuncId} {f_pick : FuncId} {f_among : FuncId} (is : Is P n (a_DrawFormatInt f_pick f_among)) (h_pick : Γ f_pick = c_pick) (h_among : Γ f_among = c_among)  : Says P n c_DrawFormatInt := by
  refine Says.pure fun args r fs h => ?_
  split at h
  case h_2 => cases h
  rename_i v
  split at h
  case h_2 => cases h
  rename_i l hv
  simp only [Option.some.injEq, Prod.mk.injEq] at h
  obtain ⟨rfl, rfl⟩ := h
  have hl := (slU_out hv).2
  have hvc := slU_cells hv
  have hvi := slU_isCell hv
  have hb := pkY_b hl (n := 1000) (c := (0, 0)) (Int.le_refl 0) (by decide)
  have r1 : 0 ≤ (nxC l (nxC l (0, 0))).1 := by simp [nxC]
  have r2 : (nxC l (nxC l (0, 0))).1 ≤ 1000 := by simp [nxC]
  have hw : IntKind.i64.wrap (pkY l 1000 (0, 0) - 500) = pkY l 1000 (0, 0) - 500 := wrap64 (by omega) (by omega)
  refine is.go hm hΓ k_DrawFormatInt o_DrawFormatInt (by simp [a_DrawFormatInt]) ?_
  simp only [a_DrawFormatInt, h_pick, c_pick, h_among, c_among, hv, hvc, hvi, r1, r2, hw, cuEta, isI, ofI, Int.le_refl, (by decide : (0 : Int) ≤ 1000), (by decide : ¬ (1000 : Int) ≤ 200), (by decide : (1000 : Int) ≤ 5000), or_true, if_true, if_false, List.zipIdx_cons, List.zipIdx_nil, ↓SP, SQ, Gam.add, stepM, callC, argC, lendO, nmBy, nmC, likeL, likeB, plainOb, offs, exL, X, F, trP, trO, stepD, stepW, newA, SV.tr, SV.trL, fz, allP, Ob.tr, loadA, cellsA, SV.cells, binA, binI, eqOut, isSl, isPt, natOf, callee, snap, SV.refsL, SV.refs, thaw, fzAll, loA, hiA, elemOf, partsA, buildA, putCells, ↓reduceIte, reduceCtorEq, okCell, Nat.reduceAdd, Nat.reduceEqDiff, Nat.reduceSub, Nat.reduceMul, Nat.reduceLeDiff, Nat.reduceLT, Nat.reduceBEq, PV.scal, PV.scalL, SV.scal, SV.scalL, Ob.scal, PV.isCell, pure', resO]
  exact finA_val (by simp [hvc, dfV, dfL, retA, rvA, mkE_cons, mk_nil, mkO_cons, mkO_nil, loadA, SV.tr, SV.trL, nmF, rn_nil, rn_cons1, rn_cons2, plainOb, SV.refsL, SV.refs, Ob.refs, X, F, List.range_succ, mkO, setO_mk]) (by simp [SV.tr, SV.trL])
def dpL : List ByteArray := [⟨#[]⟩, ⟨#[45]⟩, ⟨#[45, 48]⟩, ⟨#[48, 48]⟩, ⟨#[48, 49]⟩, ⟨#[45, 45, 49]⟩, ⟨#[49, 120]⟩, ⟨#[57, 57, 57, 57, 57, 57]⟩, ⟨#[49, 48, 48, 48, 48, 48, 48]⟩, ⟨#[45, 57, 57, 57, 57, 57, 57]⟩, ⟨#[49, 56, 52, 52, 54, 55, 52, 52, 48, 55, 51, 55, 48, 57, 53, 53, 49, 54, 49, 55]⟩]
def dpN (l : List Int) : Int := pkY l 2000 (pkC l 2 (0, 0)) - 1000
def dpV (l : List Int) : ByteArray := if pkV l 2 (0, 0) = 0 then amS l dpL (pkC l 2 (0, 0)) else numS (dpN l)
def a_DrawParseInt (f_one : FuncId) (f_ofT : FuncId) (f_pick : FuncId) (f_num : FuncId) : AFn := ⟨1, 
  .seq (.reg [⟨some 2, none, .d (.mv (.c (.str ⟨#[]⟩)))⟩])
  (.seq (.reg [⟨some 4, none, .d (.mv (.t 0))⟩,
    ⟨some 5, none, .d (.build [.nilsl, .int .i64 0, .int .u64 0] [(0, 1, (.t 4))])⟩,
    ⟨some 6, none, .w (.box 3 (.t 5))⟩,
    ⟨some 3, none, .d (.mv (.t 6))⟩])
  (.seq (.seq (.reg [⟨some 7, none, .d (.mv (.t 3))⟩,
    ⟨some 8, none, .w (.callL (.f f_one) [(.t 7), (.c (.int .i64 2))] [6] 0 false)⟩])
  (.cond (.t 8) (.seq (.reg [⟨some 9, none, .d (.mv (.t 3))⟩,
     ⟨some 10, none, .w (.bslice 1 [.str ⟨#[]⟩, .str ⟨#[]⟩, .str ⟨#[]⟩, .str ⟨#[]⟩, .str ⟨#[]⟩, .str ⟨#[]⟩, .str ⟨#[]⟩, .str ⟨#[]⟩, .str ⟨#[]⟩, .str ⟨#[]⟩, .str ⟨#[]⟩] [(0, (.c (.str ⟨#[]⟩))), (1, (.c (.str ⟨#[45]⟩))), (2, (.c (.str ⟨#[45, 48]⟩))), (3, (.c (.str ⟨#[48, 48]⟩))), (4, (.c (.str ⟨#[48, 49]⟩))), (5, (.c (.str ⟨#[45, 45, 49]⟩))), (6, (.c (.str ⟨#[49, 120]⟩))), (7, (.c (.str ⟨#[57, 57, 57, 57, 57, 57]⟩))), (8, (.c (.str ⟨#[49, 48, 48, 48, 48, 48, 48]⟩))), (9, (.c (.str ⟨#[45, 57, 57, 57, 57, 57, 57]⟩))), (10, (.c (.str ⟨#[49, 56, 52, 52, 54, 55, 52, 52, 48, 55, 51, 55, 48, 57, 53, 53, 49, 54, 49, 55]⟩)))])⟩,
     ⟨some 11, none, .w (.callL (.f f_ofT) [(.t 9), (.t 10)] [6] 0 true)⟩,
     ⟨some 2, none, .d (.mv (.t 11))⟩])
   (.ret)) (.skip)))
  (.seq (.reg [⟨some 12, none, .d (.mv (.t 3))⟩,
    ⟨some 13, none, .w (.callL (.f f_pick) [(.t 12), (.c (.int .i64 2000))] [6] 0 false)⟩,
    ⟨some 14, none, .d (.bin .arith .sub (.t 13) (.c (.int .i64 1000)))⟩,
    ⟨some 15, none, .d (.call (.f f_num) [(.t 14)])⟩,
    ⟨some 2, none, .d (.mv (.t 15))⟩])
  (.ret)))), [.tmp 2]⟩
def n_DrawParseInt : Nat → Option Ann := fun d => if d = 8 then some ⟨[6], 0, false⟩ else if d = 11 then some ⟨[6], 0, true⟩ else if d = 13 then some ⟨[6], 0, false⟩ else none
abbrev k_DrawParseInt : List Nat := [0, 2, 3, 8]
abbrev o_DrawParseInt : List Nat := [6, 10]
def c_DrawParseInt : Con := pure' fun
  | [.p v] => match slU v with
    | some l => some (.p (.str (dpV l)), [])
    | none => none
  | _ => none
theorem dpN_b {l : List Int} (hl : ∀ x ∈ l, 0 ≤ x ∧ x ≤ 255) : -1000 ≤ dpN l ∧ dpN l ≤ 999 := by
  have q := (cu0 0 (Int.le_refl _)).pk l 2
  have hb := pkY_b hl (n := 2000) (c := pkC l 2 (0, 0)) q.1 (by decide)
  unfold dpN
  omega
theorem s_DrawParseInt {P : Program} (hm : P.follows .mixedOrders = true) {Γ : Gam} (hΓ : GS P Γ) {n : FuncId} {f_one : FuncId} {f_ofT : FuncId} {f_pick : FuncId} {f_num : FuncId} (is : Is P n (a_DrawParseInt f_one f_ofT f_pick f_num)) (h_one : Γ f_one = c_one) (h_ofT : Γ f_ofT = c_ofT) (h_pick : Γ f_pick = c_pick) (h_num : Γ f_num = c_num)  : Says P n c_DrawParseInt := by
  refine Says.pure fun args r fs h => ?_
  split at h
  case h_2 => cases h
  rename_i v
  split at h
  case h_2 => cases h
  rename_i l hv
  simp only [Option.some.injEq, Prod.mk.injEq] at h
  obtain ⟨rfl, rfl⟩ := h
  have hl := (slU_out hv).2
  have hvc := slU_cells hv
  have hvi := slU_isCell hv
  have q := (cu0 0 (Int.le_refl _)).pk l 2
  have r1 := q.1
  have r2 : (pkC l 2 (0, 0)).1 ≤ 1000 := by have := q.2; omega
  by_cases p0 : pkV l 2 (0, 0) = 0
  · have e : dpV l = amS l dpL (pkC l 2 (0, 0)) := by unfold dpV; rw [if_pos p0]
    rw [e]
    refine is.go hm hΓ k_DrawParseInt o_DrawParseInt (by simp [a_DrawParseInt]) ?_
    simp only [a_DrawParseInt, h_one, c_one, h_ofT, c_ofT, h_pick, c_pick, h_num, c_num, hv, hvc, hvi, r1, r2, p0, cuEta, isStr, isS1, ofSt, ofS1, Int.le_refl, (by decide : (0 : Int) ≤ 1000), (by decide : (2 : Int) ≤ 200), (by decide : ((0 : Int) == 0) = true), List.zipIdx_cons, List.zipIdx_nil, ↓SP, SQ, Gam.add, stepM, callC, argC, lendO, nmBy, nmC, likeL, likeB, plainOb, offs, exL, X, F, trP, trO, stepD, stepW, newA, SV.tr, SV.trL, fz, allP, Ob.tr, loadA, cellsA, SV.cells, binA, binI, eqOut, isSl, isPt, natOf, callee, snap, SV.refsL, SV.refs, thaw, fzAll, loA, hiA, elemOf, partsA, buildA, putCells, ↓reduceIte, reduceCtorEq, okCell, Nat.reduceAdd, Nat.reduceEqDiff, Nat.reduceSub, Nat.reduceMul, Nat.reduceLeDiff, Nat.reduceLT, Nat.reduceBEq, PV.scal, PV.scalL, SV.scal, SV.scalL, Ob.scal, PV.isCell, pure', resO]
    exact finA_val (by simp [hvc, dpL, retA, rvA, mkE_cons, mk_nil, mkO_cons, mkO_nil, loadA, SV.tr, SV.trL, nmF, rn_nil, rn_cons1, rn_cons2, plainOb, SV.refsL, SV.refs, Ob.refs, X, F, List.range_succ, mkO, setO_mk]) (by simp [SV.tr, SV.trL])
  · have e : dpV l = numS (dpN l) := by unfold dpV; rw [if_neg p0]
    have hn := dpN_b hl
    have hw : IntKind.i64.wrap (pkY l 2000 (pkC l 2 (0, 0)) - 1000) = dpN l := wrap64 (by unfold dpN at hn; omega) (by unfold dpN at hn; omega)
    have q1 : -1000000 ≤ dpN l := by omega
    have q2 : dpN l ≤ 1000000 := by omega
    have p0' : (pkV l 2 (0, 0) == 0) = false := by simp [p0]
    rw [e]
    refine is.go hm hΓ k_DrawParseInt o_DrawParseInt (by simp [a_DrawParseInt]) ?_
    simp only [a_DrawParseInt, h_one, c_one, h_ofT, c_ofT, h_pick, c_pick, h_num, c_num, hv, hvc, hvi, r1, r2, p0', hw, q1, q2, cuEta, Int.le_refl, (by decide : (0 : Int) ≤ 1000), (by decide : (2 : Int) ≤ 200), (by decide : ¬ (2000 : Int) ≤ 200), (by decide : (2000 : Int) ≤ 5000), or_true, if_true, if_false, Bool.false_eq_true, List.zipIdx_cons, List.zipIdx_nil, ↓SP, SQ, Gam.add, stepM, callC, argC, lendO, nmBy, nmC, likeL, likeB, plainOb, offs, exL, X, F, trP, trO, stepD, stepW, newA, SV.tr, SV.trL, fz, allP, Ob.tr, loadA, cellsA, SV.cells, binA, binI, eqOut, isSl, isPt, natOf, callee, snap, SV.refsL, SV.refs, thaw, fzAll, loA, hiA, elemOf, partsA, buildA, putCells, ↓reduceIte, reduceCtorEq, okCell, Nat.reduceAdd, Nat.reduceEqDiff, Nat.reduceSub, Nat.reduceMul, Nat.reduceLeDiff, Nat.reduceLT, Nat.reduceBEq, PV.scal, PV.scalL, SV.scal, SV.scalL, Ob.scal, PV.isCell, pure', resO]
    exact finA_val (by simp [hvc, retA, rvA, mkE_cons, mk_nil, mkO_cons, mkO_nil, loadA, SV.tr, SV.trL, nmF, rn_nil, rn_cons1, rn_cons2, plainOb, SV.refsL, SV.refs, Ob.refs, X, F, List.range_succ, mkO, setO_mk]) (by simp [SV.tr, SV.trL])
def daV (l : List Int) : ByteArray := if pkV l 20 (0, 0) = 0 then zerosB (3990 + pkV l 10 (pkC l 20 (0, 0))).toNat else amS l anL (pkC l 20 (0, 0))
theorem daV_size {l : List Int} (hl : ∀ x ∈ l, 0 ≤ x ∧ x ≤ 255) : (daV l).size ≤ 4000 := by
  have q := (cu0 0 (Int.le_refl _)).pk l 20
  have hp := pkV_b hl (n := 10) (c := pkC l 20 (0, 0)) q.1
  unfold daV
  split
  · rw [zerosB_size]; omega
  · exact (by decide : ∀ s ∈ anL, s.size ≤ 4000) _ (amS_mem hl q.1 (by decide))
def a_DrawAppend (f_one : FuncId) (f_pick : FuncId) (f_any1 : FuncId) : AFn := ⟨1, 
  .seq (.reg [⟨some 2, none, .d (.mv (.c (.str ⟨#[]⟩)))⟩])
  (.seq (.reg [⟨some 4, none, .d (.mv (.t 0))⟩,
    ⟨some 5, none, .d (.build [.nilsl, .int .i64 0, .int .u64 0] [(0, 1, (.t 4))])⟩,
    ⟨some 6, none, .w (.box 3 (.t 5))⟩,
    ⟨some 3, none, .d (.mv (.t 6))⟩])
  (.seq (.seq (.reg [⟨some 7, none, .d (.mv (.t 3))⟩,
    ⟨some 8, none, .w (.callL (.f f_one) [(.t 7), (.c (.int .i64 20))] [6] 0 false)⟩])
  (.cond (.t 8) (.seq (.reg [⟨some 9, none, .d (.mv (.t 3))⟩,
     ⟨some 10, none, .w (.callL (.f f_pick) [(.t 9), (.c (.int .i64 10))] [6] 0 false)⟩,
     ⟨some 11, none, .d (.bin .arith .add (.c (.int .i64 3990)) (.t 10))⟩,
     ⟨some 12, none, .w (.mkslice 1 (.int .u8 0) (.t 11))⟩,
     ⟨some 13, none, .d (.convS (.t 12))⟩,
     ⟨some 2, none, .d (.mv (.t 13))⟩])
   (.ret)) (.skip)))
  (.seq (.reg [⟨some 14, none, .d (.mv (.t 3))⟩,
    ⟨some 15, none, .w (.callL (.f f_any1) [(.t 14)] [6] 0 false)⟩,
    ⟨some 2, none, .d (.mv (.t 15))⟩])
  (.ret)))), [.tmp 2]⟩
def n_DrawAppend : Nat → Option Ann := fun d => if d = 8 then some ⟨[6], 0, false⟩ else if d = 10 then some ⟨[6], 0, false⟩ else if d = 15 then some ⟨[6], 0, false⟩ else none
abbrev k_DrawAppend : List Nat := [0, 2, 3, 8]
abbrev o_DrawAppend : List Nat := [6, 12]
def c_DrawAppend : Con := pure' fun
  | [.p v] => match slU v with
    | some l => some (.p (.str (daV l)), [])
    | none => none
  | _ => none
theorem s_DrawAppend {P : Program} (hm : P.follows .mixedOrders = true) {Γ : Gam} (hΓ : GS P Γ) {n : FuncId} {f_one : FuncId} {f_pick : FuncId} {f_any1 : FuncId} (is : Is P n (a_DrawAppend f_one f_pick f_any1)) (h_one : Γ f_one = c_one) (h_pick : Γ f_pick = c_pick) (h_any1 : Γ f_any1 = c_any1)  : Says P n c_DrawAppend := by
  refine Says.pure fun args r fs h => ?_
  split at h
  case h_2 => cases h
  rename_i v
  split at h
  case h_2 => cases h
  rename_i l hv
  simp only [Option.some.injEq, Prod.mk.injEq] at h
  obtain ⟨rfl, rfl⟩ := h
  have hl := (slU_out hv).2
  have hvc := slU_cells hv
  have hvi := slU_isCell hv
  have q := (cu0 0 (Int.le_refl _)).pk l 20
  have r1 := q.1
  have r2 : (pkC l 20 (0, 0)).1 ≤ 1000 := by have := q.2; omega
  by_cases p0 : pkV l 20 (0, 0) = 0
  · have e : daV l = zerosB (3990 + pkV l 10 (pkC l 20 (0, 0))).toNat := by unfold daV; rw [if_pos p0]
    rw [e]
    have hp := pkV_b hl (n := 10) (c := pkC l 20 (0, 0)) q.1
    generalize hpe : pkV l 10 (pkC l 20 (0, 0)) = z at *
    have hw : IntKind.i64.wrap (3990 + z) = 3990 + z := wrap64 (by omega) (by omega)
    have h39 : 0 ≤ 3990 + z := by omega
    have hrm : (3990 + z).toNat ≤ roomA := Nat.le_trans (by omega) (by decide : 5000 ≤ roomA)
    have hz : u8sOf (List.replicate (3990 + z).toNat (.int .u8 0)) = some (List.replicate (3990 + z).toNat 0) := u8sOf_zeros _
    have hz2 : pushB (List.replicate (3990 + z).toNat 0) = zerosB (3990 + z).toNat := rfl
    refine is.go hm hΓ k_DrawAppend o_DrawAppend (by simp [a_DrawAppend]) ?_
    simp only [a_DrawAppend, h_one, c_one, h_pick, c_pick, h_any1, c_any1, hv, hvc, hvi, r1, r2, p0, hpe, hw, h39, hrm, hz, hz2, cuEta, Int.le_refl, (by decide : (0 : Int) ≤ 1000), (by decide : (20 : Int) ≤ 200), (by decide : (10 : Int) ≤ 200), true_or, if_true, (by decide : ((0 : Int) == 0) = true), List.zipIdx_cons, List.zipIdx_nil, ↓SP, SQ, Gam.add, stepM, callC, argC, lendO, nmBy, nmC, likeL, likeB, plainOb, offs, exL, X, F, trP, trO, stepD, stepW, newA, SV.tr, SV.trL, fz, allP, Ob.tr, loadA, cellsA, SV.cells, binA, binI, eqOut, isSl, isPt, natOf, callee, snap, SV.refsL, SV.refs, thaw, fzAll, loA, hiA, elemOf, partsA, buildA, putCells, ↓reduceIte, reduceCtorEq, okCell, Nat.reduceAdd, Nat.reduceEqDiff, Nat.reduceSub, Nat.reduceMul, Nat.reduceLeDiff, Nat.reduceLT, Nat.reduceBEq, PV.scal, PV.scalL, SV.scal, SV.scalL, Ob.scal, PV.isCell, pure', resO]
    exact finA_val (by simp [hvc, retA, rvA, mkE_cons, mk_nil, mkO_cons, mkO_nil, loadA, SV.tr, SV.trL, nmF, rn_nil, rn_cons1, rn_cons2, plainOb, SV.refsL, SV.refs, Ob.refs, X, F, List.range_succ, mkO, setO_mk]) (by simp [SV.tr, SV.trL])
  · have e : daV l = amS l anL (pkC l 20 (0, 0)) := by unfold daV; rw [if_neg p0]
    have p0' : (pkV l 20 (0, 0) == 0) = false := by simp [p0]
    rw [e]
    refine is.go hm hΓ k_DrawAppend o_DrawAppend (by simp [a_DrawAppend]) ?_
    simp only [a_DrawAppend, h_one, c_one, h_pick, c_pick, h_any1, c_any1, hv, hvc, hvi, r1, r2, p0', cuEta, Int.le_refl, (by decide : (0 : Int) ≤ 1000), (by decide : (20 : Int) ≤ 200), Bool.false_eq_true, if_false, List.zipIdx_cons, List.zipIdx_nil, ↓SP, SQ, Gam.add, stepM, callC, argC, lendO, nmBy, nmC, likeL, likeB, plainOb, offs, exL, X, F, trP, trO, stepD, stepW, newA, SV.tr, SV.trL, fz, allP, Ob.tr, loadA, cellsA, SV.cells, binA, binI, eqOut, isSl, isPt, natOf, callee, snap, SV.refsL, SV.refs, thaw, fzAll, loA, hiA, elemOf, partsA, buildA, putCells, ↓reduceIte, reduceCtorEq, okCell, Nat.reduceAdd, Nat.reduceEqDiff, Nat.reduceSub, Nat.reduceMul, Nat.reduceLeDiff, Nat.reduceLT, Nat.reduceBEq, PV.scal, PV.scalL, SV.scal, SV.scalL, Ob.scal, PV.isCell, pure', resO]
    exact finA_val (by simp [hvc, retA, rvA, mkE_cons, mk_nil, mkO_cons, mkO_nil, loadA, SV.tr, SV.trL, nmF, rn_nil, rn_cons1, rn_cons2, plainOb, SV.refsL, SV.refs, Ob.refs, X, F, List.range_succ, mkO, setO_mk]) (by simp [SV.tr, SV.trL])
theorem ib_lt : ∀ (l : List UInt8) (b : UInt8), Lib.indexByte l b < l.length
  | [], b => by simp [Lib.indexByte]
  | a :: l, b => by
    have ih := ib_lt l b
    unfold Lib.indexByte
    split
    · simp only [List.length_cons]; omega
    · split
      · simp only [List.length_cons]; omega
      · simp only [List.length_cons]; omega
def c_Index1 : Con := pure' fun
  | [.p (.str s), .p (.str sub)] => if sub.size = 1 then some (.p (.int .i64 (Lib.indexByte s.data.toList (bAt sub 0))), []) else none
  | _ => none
def cutB (s : ByteArray) (b : UInt8) : ByteArray := if 0 ≤ Lib.indexByte s.data.toList b then s.extract 0 (Lib.indexByte s.data.toList b).toNat else s
def cutR (s : ByteArray) (b : UInt8) : ByteArray := if 0 ≤ Lib.indexByte s.data.toList b then s.extract ((Lib.indexByte s.data.toList b).toNat + 1) s.size else ⟨#[]⟩
def a_liteCut (f_Index1 : FuncId) : AFn := ⟨2, 
  .seq (.reg [⟨some 4, none, .d (.mv (.c (.str ⟨#[]⟩)))⟩,
    ⟨some 5, none, .d (.mv (.c (.str ⟨#[]⟩)))⟩,
    ⟨some 6, none, .d (.mv (.c (.bool false)))⟩])
  (.seq (.seq (.reg [⟨some 8, none, .d (.mv (.t 0))⟩,
    ⟨some 9, none, .d (.mv (.t 1))⟩,
    ⟨some 10, none, .d (.call (.f f_Index1) [(.t 8), (.t 9)])⟩,
    ⟨some 7, none, .d (.mv (.t 10))⟩])
  (.seq (.reg [⟨some 11, none, .d (.mv (.t 7))⟩,
    ⟨some 12, none, .d (.bin .arith .geq (.t 11) (.c (.int .i64 0)))⟩])
  (.cond (.t 12) (.seq (.dreg [] [([], ⟨some 13, none, .d (.mv (.t 0))⟩),
     ([], ⟨some 14, none, .d (.mv (.t 7))⟩),
     ([], ⟨some 15, none, .d (.slcS (.t 13) none (some (.t 14)))⟩),
     ([], ⟨some 16, none, .d (.mv (.t 0))⟩),
     ([], ⟨some 17, none, .d (.mv (.t 7))⟩),
     ([], ⟨some 18, none, .d (.mv (.t 1))⟩),
     ([], ⟨some 19, none, .d (.lenS (.t 18))⟩),
     ([], ⟨some 20, none, .d (.bin .arith .add (.t 17) (.t 19))⟩),
     ([], ⟨some 21, none, .d (.slcS (.t 16) (some (.t 20)) none)⟩),
     ([], ⟨some 4, none, .d (.mv (.t 15))⟩)] [⟨some 5, none, .d (.mv (.t 21))⟩,
     ⟨some 6, none, .d (.mv (.c (.bool true)))⟩])
   (.ret)) (.skip))))
  (.seq (.reg [⟨some 22, none, .d (.mv (.t 0))⟩,
    ⟨some 4, none, .d (.mv (.t 22))⟩,
    ⟨some 5, none, .d (.mv (.c (.str ⟨#[]⟩)))⟩,
    ⟨some 6, none, .d (.mv (.c (.bool false)))⟩])
  (.ret))), [.tmp 4, .tmp 5, .tmp 6]⟩
def n_liteCut : Nat → Option Ann := fun _ => none
abbrev k_liteCut : List Nat := [0, 1, 4, 5, 6, 7, 12]
abbrev o_liteCut : List Nat := []
def c_liteCut : Con := pure' fun
  | [.p (.str s), .p (.str sub)] => if sub.size = 1 ∧ s.size ≤ 5000 then some (.tp [.p (.str (cutB s (bAt sub 0))), .p (.str (cutR s (bAt sub 0))), .p (.bool (hasB s (bAt sub 0)))], []) else none
  | _ => none
theorem s_liteCut {P : Program} (hm : P.follows .mixedOrders = true) {Γ : Gam} (hΓ : GS P Γ) {n : FuncId} {f_Index1 : FuncId} (is : Is P n (a_liteCut f_Index1)) (h_Index1 : Γ f_Index1 = c_Index1)  : Says P n c_liteCut := by
  refine Says.pure fun args r fs h => ?_
  split at h
  case h_2 => cases h
  rename_i s sub
  split at h
  case isFalse => cases h
  rename_i hc
  obtain ⟨h1, hs⟩ := hc
  simp only [Option.some.injEq, Prod.mk.injEq] at h
  obtain ⟨rfl, rfl⟩ := h
  generalize hbq : bAt sub 0 = b
  have hib : decide (0 ≤ Lib.indexByte s.data.toList b) = hasB s b := ib_has _ _
  have hlt := ib_lt s.data.toList b
  have hls : s.data.toList.length = s.size := by simp
  by_cases h2 : 0 ≤ Lib.indexByte s.data.toList b
  · have hh : hasB s b = true := by rw [← hib]; simp [h2]
    have e1 : cutB s b = s.extract 0 (Lib.indexByte s.data.toList b).toNat := by unfold cutB; rw [if_pos h2]
    have e2 : cutR s b = s.extract ((Lib.indexByte s.data.toList b).toNat + 1) s.size := by unfold cutR; rw [if_pos h2]
    rw [e1, e2, hh]
    generalize hi : Lib.indexByte s.data.toList b = i at *
    obtain ⟨i, rfl⟩ : ∃ k : Nat, i = (k : Int) := ⟨i.toNat, by omega⟩
    have hw : IntKind.i64.wrap ((i : Int) + 1) = ((i + 1 : Nat) : Int) := by rw [wrap64 (by omega) (by omega)]; omega
    have z1 : (0 : Int) ≤ ((i + 1 : Nat) : Int) := by omega
    have l1 : 0 ≤ i ∧ i ≤ s.size := by omega
    have l2 : i + 1 ≤ s.size ∧ s.size ≤ s.size := by omega
    have s1 : (sub.size : Int) = 1 := by omega
    have hw1 : IntKind.i64.wrap ((i : Int) + ((1 : Nat) : Int)) = ((i + 1 : Nat) : Int) := hw
    refine is.go hm hΓ k_liteCut o_liteCut (by simp [a_liteCut]) ?_
    simp only [a_liteCut, h_Index1, c_Index1, h1, s1, hbq, hi, h2, hw, hw1, z1, l1, l2, Int.toNat_natCast, List.zipIdx_cons, List.zipIdx_nil, ↓SP, SQ, Gam.add, stepM, callC, argC, lendO, nmBy, nmC, likeL, likeB, plainOb, offs, exL, X, F, trP, trO, stepD, stepW, newA, SV.tr, SV.trL, fz, allP, Ob.tr, loadA, cellsA, SV.cells, binA, binI, eqOut, isSl, isPt, natOf, callee, snap, SV.refsL, SV.refs, thaw, fzAll, loA, hiA, elemOf, partsA, buildA, putCells, ↓reduceIte, reduceCtorEq, okCell, Nat.reduceAdd, Nat.reduceEqDiff, Nat.reduceSub, Nat.reduceMul, Nat.reduceLeDiff, Nat.reduceLT, Nat.reduceBEq, PV.scal, PV.scalL, SV.scal, SV.scalL, Ob.scal, PV.isCell, pure', resO]
    exact finA_val (by simp [retA, rvA, mkE_cons, mk_nil, mkO_cons, mkO_nil, loadA, SV.tr, SV.trL, nmF, rn_nil, rn_cons1, rn_cons2, plainOb, SV.refsL, SV.refs, Ob.refs, X, F, List.range_succ, mkO, setO_mk]) (by simp [SV.tr, SV.trL])
  · have hh : hasB s b = false := by rw [← hib]; simp [h2]
    have e1 : cutB s b = s := by unfold cutB; rw [if_neg h2]
    have e2 : cutR s b = ⟨#[]⟩ := by unfold cutR; rw [if_neg h2]
    rw [e1, e2, hh]
    refine is.go hm hΓ k_liteCut o_liteCut (by simp [a_liteCut]) ?_
    simp only [a_liteCut, h_Index1, c_Index1, h1, hbq, h2, List.zipIdx_cons, List.zipIdx_nil, ↓SP, SQ, Gam.add, stepM, callC, argC, lendO, nmBy, nmC, likeL, likeB, plainOb, offs, exL, X, F, trP, trO, stepD, stepW, newA, SV.tr, SV.trL, fz, allP, Ob.tr, loadA, cellsA, SV.cells, binA, binI, eqOut, isSl, isPt, natOf, callee, snap, SV.refsL, SV.refs, thaw, fzAll, loA, hiA, elemOf, partsA, buildA, putCells, ↓reduceIte, reduceCtorEq, okCell, Nat.reduceAdd, Nat.reduceEqDiff, Nat.reduceSub, Nat.reduceMul, Nat.reduceLeDiff, Nat.reduceLT, Nat.reduceBEq, PV.scal, PV.scalL, SV.scal, SV.scalL, Ob.scal, PV.isCell, pure', resO]
    exact finA_val (by simp [retA, rvA, mkE_cons, mk_nil, mkO_cons, mkO_nil, loadA, SV.tr, SV.trL, nmF, rn_nil, rn_cons1, rn_cons2, plainOb, SV.refsL, SV.refs, Ob.refs, X, F, List.range_succ, mkO, setO_mk]) (by simp [SV.tr, SV.trL])
def a_strCut (f_liteCut : FuncId) : AFn := ⟨2, 
  .seq (.reg [⟨some 4, none, .d (.mv (.c (.str ⟨#[]⟩)))⟩,
    ⟨some 5, none, .d (.mv (.c (.str ⟨#[]⟩)))⟩,
    ⟨some 6, none, .d (.mv (.c (.bool false)))⟩])
  (.seq (.reg [⟨some 7, none, .d (.mv (.t 0))⟩,
    ⟨some 8, none, .d (.mv (.t 1))⟩,
    ⟨some 9, none, .d (.call (.f f_liteCut) [(.t 7), (.t 8)])⟩,
    ⟨some 10, none, .d (.extract (.t 9) 0)⟩,
    ⟨some 11, none, .d (.extract (.t 9) 1)⟩,
    ⟨some 12, none, .d (.extract (.t 9) 2)⟩,
    ⟨some 4, none, .d (.mv (.t 10))⟩,
    ⟨some 5, none, .d (.mv (.t 11))⟩,
    ⟨some 6, none, .d (.mv (.t 12))⟩])
  (.ret)), [.tmp 4, .tmp 5, .tmp 6]⟩
def n_strCut : Nat → Option Ann := fun _ => none
abbrev k_strCut : List Nat := [0, 1, 4, 5, 6]
abbrev o_strCut : List Nat := []
theorem s_strCut {P : Program} (hm : P.follows .mixedOrders = true) {Γ : Gam} (hΓ : GS P Γ) {n : FuncId} {f_liteCut : FuncId} (is : Is P n (a_strCut f_liteCut)) (h_liteCut : Γ f_liteCut = c_liteCut)  : Says P n c_liteCut := by
  refine Says.pure fun args r fs h => ?_
  split at h
  case h_2 => cases h
  rename_i s sub
  split at h
  case isFalse => cases h
  rename_i hc
  simp only [Option.some.injEq, Prod.mk.injEq] at h
  obtain ⟨rfl, rfl⟩ := h
  refine is.go hm hΓ k_strCut o_strCut (by simp [a_strCut]) ?_
  simp only [a_strCut, h_liteCut, c_liteCut, hc, List.zipIdx_cons, List.zipIdx_nil, ↓SP, SQ, Gam.add, stepM, callC, argC, lendO, nmBy, nmC, likeL, likeB, plainOb, offs, exL, X, F, trP, trO, stepD, stepW, newA, SV.tr, SV.trL, fz, allP, Ob.tr, loadA, cellsA, SV.cells, binA, binI, eqOut, isSl, isPt, natOf, callee, snap, SV.refsL, SV.refs, thaw, fzAll, loA, hiA, elemOf, partsA, buildA, putCells, ↓reduceIte, reduceCtorEq, okCell, Nat.reduceAdd, Nat.reduceEqDiff, Nat.reduceSub, Nat.reduceMul, Nat.reduceLeDiff, Nat.reduceLT, Nat.reduceBEq, PV.scal, PV.scalL, SV.scal, SV.scalL, Ob.scal, PV.isCell, pure', resO]
  exact finA_val (by simp [retA, rvA, mkE_cons, mk_nil, mkO_cons, mkO_nil, loadA, SV.tr, SV.trL, nmF, rn_nil, rn_cons1, rn_cons2, plainOb, SV.refsL, SV.refs, Ob.refs, X, F, List.range_succ, mkO, setO_mk]) (by simp [SV.tr, SV.trL])
end Go.Proofs.YtpobnchalcokoaaDoor.Pam
