/- A part of the proof that stands in this folder: a small machine whose steps are shown to be the steps of the model, or walks of functions by it. No condition of its own. -/
import Derived.Test.YtmbljmolegalhaaGaOU
set_option linter.unusedVariables false
set_option linter.unusedSimpArgs false
namespace Go.Proofs.Ytmbljmolegalhaa.Pam
open Go
def drJ (l : List Int) (c : Cu) : Int := (pkV l 24 c).tdiv 11
def drX (j : Int) : List Int := [5, 3, 7, 1, 12, 2, 0, 13, -1].take (7 + j).toNat
def drM (l : List Int) (c : Cu) : Int := amV l (drX (drJ l c)) (pkC l 24 c)
def drC2 (l : List Int) (c : Cu) : Cu := pkC l (drX (drJ l c)).length (pkC l 24 c)
def drC3 (l : List Int) (c : Cu) : Cu := pkC l (mo (drM l c)) (drC2 l c)
def drC4 (l : List Int) (c : Cu) : Cu := pkC l 24 (drC3 l c)
def drR (l : List Int) (c : Cu) : (Int × Int) × Cu := ((drM l c, pkV l (mo (drM l c)) (drC2 l c) + (pkV l 24 (drC3 l c)).tdiv 23 - (pkV l 24 (drC4 l c)).tdiv 23), pkC l 24 (drC4 l c))
theorem q24 {l : List Int} (hl : ∀ x ∈ l, 0 ≤ x ∧ x ≤ 255) {c : Cu} (h0 : 0 ≤ c.1) {k : Int} (hk : 0 < k) : 0 ≤ (pkV l 24 c).tdiv k ∧ (pkV l 24 c).tdiv k ≤ 23 := by
  have hb := pkV_b hl (n := 24) (c := c) h0
  refine ⟨Int.tdiv_nonneg hb.1 (by omega), ?_⟩
  rw [Int.tdiv_eq_ediv_of_nonneg hb.1]
  exact Int.le_trans (Int.ediv_le_self _ hb.1) (by omega)
theorem drJ_b {l : List Int} (hl : ∀ x ∈ l, 0 ≤ x ∧ x ≤ 255) {c : Cu} (h0 : 0 ≤ c.1) : drJ l c = 0 ∨ drJ l c = 1 ∨ drJ l c = 2 := by
  have hb := pkV_b hl (n := 24) (c := c) h0
  have e : drJ l c = pkV l 24 c / 11 := Int.tdiv_eq_ediv_of_nonneg hb.1
  omega
theorem drR_at {l : List Int} {c : Cu} {b : Int} (hc : CuA c b) : CuA (drR l c).2 (b + 5) :=
  (((((hc.pk l 24).pk l (drX (drJ l c)).length).pk l (mo (drM l c))).pk l 24).pk l 24).mono (by omega)
def a_drawn7 (f_pick : FuncId) (f_among : FuncId) (f_l1Most : FuncId) : AFn := ⟨1, 
  .seq (.reg [⟨some 2, none, .d (.mv (.c (.int .i64 0)))⟩,
    ⟨some 3, none, .d (.mv (.c (.int .i64 0)))⟩])
  (.seq (.reg [⟨some 5, none, .d (.mv (.t 0))⟩,
    ⟨some 6, none, .w (.bslice 1 [.int .i64 0, .int .i64 0, .int .i64 0, .int .i64 0, .int .i64 0, .int .i64 0, .int .i64 0, .int .i64 0, .int .i64 0] [(0, (.c (.int .i64 5))), (1, (.c (.int .i64 3))), (2, (.c (.int .i64 7))), (3, (.c (.int .i64 1))), (4, (.c (.int .i64 12))), (5, (.c (.int .i64 2))), (6, (.c (.int .i64 0))), (7, (.c (.int .i64 13))), (8, (.c (.int .i64 (-1))))])⟩,
    ⟨some 7, none, .d (.mv (.t 0))⟩,
    ⟨some 8, none, .w (.callL (.f f_pick) [(.t 7), (.c (.int .i64 24))] [1000000] 0 false)⟩,
    ⟨some 9, none, .d (.bin .arith .quo (.t 8) (.c (.int .i64 11)))⟩,
    ⟨some 10, none, .d (.bin .arith .add (.c (.int .i64 7)) (.t 9))⟩,
    ⟨some 11, none, .d (.slc 1 (.t 6) none (some (.t 10)))⟩,
    ⟨some 12, none, .w (.callL (.f f_among) [(.t 5), (.t 11)] [1000000] 0 true)⟩,
    ⟨some 4, none, .d (.mv (.t 12))⟩])
  (.seq (.reg [⟨some 13, none, .d (.mv (.t 4))⟩,
    ⟨some 14, none, .d (.mv (.t 0))⟩,
    ⟨some 15, none, .d (.mv (.t 4))⟩,
    ⟨some 16, none, .d (.bin .arith .add (.t 15) (.c (.int .i64 1)))⟩,
    ⟨some 17, none, .d (.call (.f f_l1Most) [(.c (.int .i64 1)), (.t 16)])⟩,
    ⟨some 18, none, .w (.callL (.f f_pick) [(.t 14), (.t 17)] [1000000] 0 false)⟩,
    ⟨some 19, none, .d (.mv (.t 0))⟩,
    ⟨some 20, none, .w (.callL (.f f_pick) [(.t 19), (.c (.int .i64 24))] [1000000] 0 false)⟩,
    ⟨some 21, none, .d (.bin .arith .quo (.t 20) (.c (.int .i64 23)))⟩,
    ⟨some 22, none, .d (.bin .arith .add (.t 18) (.t 21))⟩,
    ⟨some 23, none, .d (.mv (.t 0))⟩,
    ⟨some 24, none, .w (.callL (.f f_pick) [(.t 23), (.c (.int .i64 24))] [1000000] 0 false)⟩,
    ⟨some 25, none, .d (.bin .arith .quo (.t 24) (.c (.int .i64 23)))⟩,
    ⟨some 26, none, .d (.bin .arith .sub (.t 22) (.t 25))⟩,
    ⟨some 2, none, .d (.mv (.t 13))⟩,
    ⟨some 3, none, .d (.mv (.t 26))⟩])
  (.ret))), [.tmp 2, .tmp 3]⟩
def n_drawn7 : Nat → Option Ann := fun d => if d = 8 then some ⟨[1000000], 0, false⟩ else if d = 12 then some ⟨[1000000], 0, true⟩ else if d = 18 then some ⟨[1000000], 0, false⟩ else if d = 20 then some ⟨[1000000], 0, false⟩ else if d = 24 then some ⟨[1000000], 0, false⟩ else none
abbrev k_drawn7 : List Nat := [0, 2, 3, 4]
abbrev o_drawn7 : List Nat := [6]
def c_drawn7 : Con
  | [.bx 1000000 0], [.box [.p v, .p (.int .i64 a), .p (.int .u64 s)]] => match slU v with
    | some l => if 0 ≤ a ∧ a ≤ 900 then some (.tp [.p (.int .i64 (drR l (a, s)).1.1), .p (.int .i64 (drR l (a, s)).1.2)], [.box [.p v, .p (.int .i64 (drR l (a, s)).2.1), .p (.int .u64 (drR l (a, s)).2.2)]], []) else none
    | none => none
  | _, _ => none
theorem s_drawn7 {P : Program} (hm : P.follows .mixedOrders = true) {Γ : Gam} (hΓ : GS P Γ) {n : FuncId} {f_pick : FuncId} {f_among : FuncId} {f_l1Most : FuncId} (is : Is P n (a_drawn7 f_pick f_among f_l1Most)) (h_pick : Γ f_pick = c_pick) (h_among : Γ f_among = c_among) (h_l1Most : Γ f_l1Most = c_l1Most)  : Says P n c_drawn7 := by
  intro args ext r ext' fs h
  unfold c_drawn7 at h
  split at h
  case h_2 => cases h
  rename_i v a s
  split at h
  case h_2 => cases h
  rename_i l hv
  split at h
  case isFalse => cases h
  rename_i hc
  obtain ⟨h0, h1⟩ := hc
  simp only [Option.some.injEq, Prod.mk.injEq] at h
  obtain ⟨rfl, rfl, rfl⟩ := h
  have hl := (slU_out hv).2
  have ha0 : CuA (a, s) 900 := ⟨h0, h1⟩
  have h1' : a ≤ 1000 := by omega
  have ha1 := ha0.pk l 24
  have ha2 := ha1.pk l (drX (drJ l (a, s))).length
  have ha3 := ha2.pk l (mo (drM l (a, s)))
  have ha4 := ha3.pk l 24
  have q1 := ha1.1
  have q1' : (pkC l 24 (a, s)).1 ≤ 1000 := by have := ha1.2; omega
  have q2 : 0 ≤ (drC2 l (a, s)).1 := ha2.1
  have q2' : (drC2 l (a, s)).1 ≤ 1000 := by have := ha2.2; simp only [drC2]; omega
  have q3 : 0 ≤ (drC3 l (a, s)).1 := ha3.1
  have q3' : (drC3 l (a, s)).1 ≤ 1000 := by have := ha3.2; simp only [drC3, drC2]; omega
  have q4 : 0 ≤ (drC4 l (a, s)).1 := ha4.1
  have q4' : (drC4 l (a, s)).1 ≤ 1000 := by have := ha4.2; simp only [drC4, drC3, drC2]; omega
  have hM : -1 ≤ drM l (a, s) ∧ drM l (a, s) ≤ 13 := by
    have hm := amV_mem hl (c := pkC l 24 (a, s)) (xs := drX (drJ l (a, s))) q1 (by rcases drJ_b hl (c := (a, s)) h0 with e | e | e <;> rw [e] <;> decide)
    exact (by decide : ∀ x ∈ ([5, 3, 7, 1, 12, 2, 0, 13, -1] : List Int), -1 ≤ x ∧ x ≤ 13) _ (List.mem_of_mem_take hm)
  have hmo := mo_b (drM l (a, s))
  have hk1 := pkV_b hl (n := mo (drM l (a, s))) (c := drC2 l (a, s)) q2
  have u1 := q24 hl (c := drC3 l (a, s)) q3 (k := 23) (by omega)
  have u2 := q24 hl (c := drC4 l (a, s)) q4 (k := 23) (by omega)
  have e2 : (if 1 > drM l (a, s) + 1 then 1 else drM l (a, s) + 1) = mo (drM l (a, s)) := rfl
  have e3 : pkC l (mo (drM l (a, s))) (drC2 l (a, s)) = drC3 l (a, s) := rfl
  have e4 : pkC l 24 (drC3 l (a, s)) = drC4 l (a, s) := rfl
  have w1 : IntKind.i64.wrap (drM l (a, s) + 1) = drM l (a, s) + 1 := wrap64 (by omega) (by omega)
  have w2 : IntKind.i64.wrap ((pkV l 24 (drC3 l (a, s))).tdiv 23) = (pkV l 24 (drC3 l (a, s))).tdiv 23 := wrap64 (by omega) (by omega)
  have w3 : IntKind.i64.wrap ((pkV l 24 (drC4 l (a, s))).tdiv 23) = (pkV l 24 (drC4 l (a, s))).tdiv 23 := wrap64 (by omega) (by omega)
  have w4 : IntKind.i64.wrap (pkV l (mo (drM l (a, s))) (drC2 l (a, s)) + (pkV l 24 (drC3 l (a, s))).tdiv 23) = pkV l (mo (drM l (a, s))) (drC2 l (a, s)) + (pkV l 24 (drC3 l (a, s))).tdiv 23 := wrap64 (by omega) (by omega)
  have w5 : IntKind.i64.wrap (pkV l (mo (drM l (a, s))) (drC2 l (a, s)) + (pkV l 24 (drC3 l (a, s))).tdiv 23 - (pkV l 24 (drC4 l (a, s))).tdiv 23) = pkV l (mo (drM l (a, s))) (drC2 l (a, s)) + (pkV l 24 (drC3 l (a, s))).tdiv 23 - (pkV l 24 (drC4 l (a, s))).tdiv 23 := wrap64 (by omega) (by omega)
  have n11 : ¬ (11 : Int) = 0 := by decide
  have n23 : ¬ (23 : Int) = 0 := by decide
  have m200 : mo (drM l (a, s)) ≤ 200 := by omega
  have hR : drR l (a, s) = ((drM l (a, s), pkV l (mo (drM l (a, s))) (drC2 l (a, s)) + (pkV l 24 (drC3 l (a, s))).tdiv 23 - (pkV l 24 (drC4 l (a, s))).tdiv 23), pkC l 24 (drC4 l (a, s))) := rfl
  rw [hR]
  refine is.goX hm hΓ k_drawn7 (1000000 :: o_drawn7) (by simp [a_drawn7]) (by simp) ?_
  rcases drJ_b hl (c := (a, s)) h0 with hj | hj | hj
  · have hjw : IntKind.i64.wrap ((pkV l 24 (a, s)).tdiv 11) = 0 := by
      have e : (pkV l 24 (a, s)).tdiv 11 = 0 := hj
      rw [e]; rfl
    have hjs : IntKind.i64.wrap (7 + 0) = 7 := rfl
    have e0 : amV l [5, 3, 7, 1, 12, 2, 0] (pkC l 24 (a, s)) = drM l (a, s) := by simp only [drM, hj]; rfl
    have e1 : pkC l 7 (pkC l 24 (a, s)) = drC2 l (a, s) := by simp only [drC2, hj]; rfl
    simp only [a_drawn7, h_among, c_among, h_pick, c_pick, h_l1Most, c_l1Most, hv, h0, h1', q1, q1', q2, q2', q3, q3', q4, q4', e0, e1, e2, e3, e4, w1, w2, w3, w4, w5, n11, n23, m200, hjw, hjs, (by decide : (24 : Int) ≤ 200), (by decide : (0 : Int) ≤ 7), isI, ofI, cuEta, Int.cast_ofNat_Int, Int.reduceToNat, List.zipIdx_cons, List.zipIdx_nil, ↓SP, SQ, Gam.add, stepM, callC, argC, lendO, nmBy, nmC, likeL, likeB, plainOb, offs, exL, X, F, trP, trO, stepD, stepW, newA, SV.tr, SV.trL, fz, allP, Ob.tr, loadA, cellsA, SV.cells, binA, binI, eqOut, isSl, isPt, natOf, callee, snap, SV.refsL, SV.refs, thaw, fzAll, loA, hiA, elemOf, partsA, buildA, putCells, ↓reduceIte, reduceCtorEq, okCell, Nat.reduceAdd, Nat.reduceEqDiff, Nat.reduceSub, Nat.reduceMul, Nat.reduceLeDiff, Nat.reduceLT, Nat.reduceBEq, PV.scal, PV.scalL, SV.scal, SV.scalL, Ob.scal, PV.isCell, pure', resO]
    refine finA_gen [] trivial (by simp [retA, rvA, mkE_cons, mk_nil, mkO_cons, mkO_nil, loadA, SV.tr, SV.trL, nmF, rn_nil, rn_cons1, rn_cons2, plainOb, SV.refsL, SV.refs, Ob.refs, X, F, List.range_succ, mkO, setO_mk]; rfl) ?_ ?_ ?_ ?_ ?_ ?_ ?_ <;> simp [retA, rvA, mkE_cons, mk_nil, mkO_cons, mkO_nil, loadA, SV.tr, SV.trL, nmF, rn_nil, rn_cons1, rn_cons2, plainOb, SV.refsL, SV.refs, Ob.refs, X, F, List.range_succ, mkO, setO_mk]
  · have hjw : IntKind.i64.wrap ((pkV l 24 (a, s)).tdiv 11) = 1 := by
      have e : (pkV l 24 (a, s)).tdiv 11 = 1 := hj
      rw [e]; rfl
    have hjs : IntKind.i64.wrap (7 + 1) = 8 := rfl
    have e0 : amV l [5, 3, 7, 1, 12, 2, 0, 13] (pkC l 24 (a, s)) = drM l (a, s) := by simp only [drM, hj]; rfl
    have e1 : pkC l 8 (pkC l 24 (a, s)) = drC2 l (a, s) := by simp only [drC2, hj]; rfl
    simp only [a_drawn7, h_among, c_among, h_pick, c_pick, h_l1Most, c_l1Most, hv, h0, h1', q1, q1', q2, q2', q3, q3', q4, q4', e0, e1, e2, e3, e4, w1, w2, w3, w4, w5, n11, n23, m200, hjw, hjs, (by decide : (24 : Int) ≤ 200), (by decide : (0 : Int) ≤ 8), isI, ofI, cuEta, Int.cast_ofNat_Int, Int.reduceToNat, List.zipIdx_cons, List.zipIdx_nil, ↓SP, SQ, Gam.add, stepM, callC, argC, lendO, nmBy, nmC, likeL, likeB, plainOb, offs, exL, X, F, trP, trO, stepD, stepW, newA, SV.tr, SV.trL, fz, allP, Ob.tr, loadA, cellsA, SV.cells, binA, binI, eqOut, isSl, isPt, natOf, callee, snap, SV.refsL, SV.refs, thaw, fzAll, loA, hiA, elemOf, partsA, buildA, putCells, ↓reduceIte, reduceCtorEq, okCell, Nat.reduceAdd, Nat.reduceEqDiff, Nat.reduceSub, Nat.reduceMul, Nat.reduceLeDiff, Nat.reduceLT, Nat.reduceBEq, PV.scal, PV.scalL, SV.scal, SV.scalL, Ob.scal, PV.isCell, pure', resO]
    refine finA_gen [] trivial (by simp [retA, rvA, mkE_cons, mk_nil, mkO_cons, mkO_nil, loadA, SV.tr, SV.trL, nmF, rn_nil, rn_cons1, rn_cons2, plainOb, SV.refsL, SV.refs, Ob.refs, X, F, List.range_succ, mkO, setO_mk]; rfl) ?_ ?_ ?_ ?_ ?_ ?_ ?_ <;> simp [retA, rvA, mkE_cons, mk_nil, mkO_cons, mkO_nil, loadA, SV.tr, SV.trL, nmF, rn_nil, rn_cons1, rn_cons2, plainOb, SV.refsL, SV.refs, Ob.refs, X, F, List.range_succ, mkO, setO_mk]
  · have hjw : IntKind.i64.wrap ((pkV l 24 (a, s)).tdiv 11) = 2 := by
      have e : (pkV l 24 (a, s)).tdiv 11 = 2 := hj
      rw [e]; rfl
    have hjs : IntKind.i64.wrap (7 + 2) = 9 := rfl
    have e0 : amV l [5, 3, 7, 1, 12, 2, 0, 13, -1] (pkC l 24 (a, s)) = drM l (a, s) := by simp only [drM, hj]; rfl
    have e1 : pkC l 9 (pkC l 24 (a, s)) = drC2 l (a, s) := by simp only [drC2, hj]; rfl
    simp only [a_drawn7, h_among, c_among, h_pick, c_pick, h_l1Most, c_l1Most, hv, h0, h1', q1, q1', q2, q2', q3, q3', q4, q4', e0, e1, e2, e3, e4, w1, w2, w3, w4, w5, n11, n23, m200, hjw, hjs, (by decide : (24 : Int) ≤ 200), (by decide : (0 : Int) ≤ 9), isI, ofI, cuEta, Int.cast_ofNat_Int, Int.reduceToNat, List.zipIdx_cons, List.zipIdx_nil, ↓SP, SQ, Gam.add, stepM, callC, argC, lendO, nmBy, nmC, likeL, likeB, plainOb, offs, exL, X, F, trP, trO, stepD, stepW, newA, SV.tr, SV.trL, fz, allP, Ob.tr, loadA, cellsA, SV.cells, binA, binI, eqOut, isSl, isPt, natOf, callee, snap, SV.refsL, SV.refs, thaw, fzAll, loA, hiA, elemOf, partsA, buildA, putCells, ↓reduceIte, reduceCtorEq, okCell, Nat.reduceAdd, Nat.reduceEqDiff, Nat.reduceSub, Nat.reduceMul, Nat.reduceLeDiff, Nat.reduceLT, Nat.reduceBEq, PV.scal, PV.scalL, SV.scal, SV.scalL, Ob.scal, PV.isCell, pure', resO]
    refine finA_gen [] trivial (by simp [retA, rvA, mkE_cons, mk_nil, mkO_cons, mkO_nil, loadA, SV.tr, SV.trL, nmF, rn_nil, rn_cons1, rn_cons2, plainOb, SV.refsL, SV.refs, Ob.refs, X, F, List.range_succ, mkO, setO_mk]; rfl) ?_ ?_ ?_ ?_ ?_ ?_ ?_ <;> simp [retA, rvA, mkE_cons, mk_nil, mkO_cons, mkO_nil, loadA, SV.tr, SV.trL, nmF, rn_nil, rn_cons1, rn_cons2, plainOb, SV.refsL, SV.refs, Ob.refs, X, F, List.range_succ, mkO, setO_mk]
def a_DrawChanceFalse (f_drawn7 : FuncId) (f_doubt7 : FuncId) : AFn := ⟨1, 
  .seq (.reg [⟨some 2, none, .d (.mv (.c (.int .i64 0)))⟩,
    ⟨some 3, none, .d (.mv (.c (.int .i64 0)))⟩,
    ⟨some 4, none, .w (.alloc [.int .i64 0, .int .i64 0])⟩])
  (.seq (.reg [⟨some 8, none, .d (.mv (.t 0))⟩,
    ⟨some 9, none, .d (.build [.nilsl, .int .i64 0, .int .u64 0] [(0, 1, (.t 8))])⟩,
    ⟨some 10, none, .w (.box 3 (.t 9))⟩,
    ⟨some 5, none, .d (.mv (.t 10))⟩])
  (.seq (.reg [⟨some 12, none, .d (.mv (.t 5))⟩,
    ⟨some 13, none, .w (.callL (.f f_drawn7) [(.t 12)] [10] 0 false)⟩,
    ⟨some 11, none, .d (.mv (.t 13))⟩,
    ⟨some 14, none, .d (.extract (.t 11) 0)⟩,
    ⟨some 15, none, .d (.extract (.t 11) 1)⟩,
    ⟨some 6, none, .d (.mv (.t 14))⟩,
    ⟨some 7, none, .d (.mv (.t 15))⟩])
  (.seq (.reg [⟨some 16, none, .d (.mv (.t 6))⟩,
    ⟨some 17, none, .d (.mv (.t 7))⟩,
    ⟨some 18, none, .d (.mv (.t 5))⟩,
    ⟨some 19, none, .w (.callL (.f f_doubt7) [(.t 18)] [10] 0 false)⟩,
    ⟨some 2, none, .d (.mv (.t 16))⟩,
    ⟨some 3, none, .d (.mv (.t 17))⟩,
    ⟨none, none, .w (.store 2 (.t 4) (.t 19))⟩])
  (.ret)))), [.tmp 2, .tmp 3, .cell 4 2 true]⟩
def n_DrawChanceFalse : Nat → Option Ann := fun d => if d = 13 then some ⟨[10], 0, false⟩ else if d = 19 then some ⟨[10], 0, false⟩ else none
abbrev k_DrawChanceFalse : List Nat := [0, 2, 3, 4, 5, 6, 7]
abbrev o_DrawChanceFalse : List Nat := [4, 10]
def c_DrawChanceFalse : Con := pure' fun
  | [.p v] => match slU v with
    | some l => some (.tp [.p (.int .i64 (drR l (0, 0)).1.1), .p (.int .i64 (drR l (0, 0)).1.2), .ag [.p (.int .i64 (dbR l (drR l (0, 0)).2).1.1), .p (.int .i64 (dbR l (drR l (0, 0)).2).1.2)]], [])
    | none => none
  | _ => none
theorem s_DrawChanceFalse {P : Program} (hm : P.follows .mixedOrders = true) {Γ : Gam} (hΓ : GS P Γ) {n : FuncId} {f_drawn7 : FuncId} {f_doubt7 : FuncId} (is : Is P n (a_DrawChanceFalse f_drawn7 f_doubt7)) (h_drawn7 : Γ f_drawn7 = c_drawn7) (h_doubt7 : Γ f_doubt7 = c_doubt7)  : Says P n c_DrawChanceFalse := by
  refine Says.pure fun args r fs h => ?_
  split at h
  case h_2 => cases h
  rename_i v
  split at h
  case h_2 => cases h
  rename_i l hv
  simp only [Option.some.injEq, Prod.mk.injEq] at h
  obtain ⟨rfl, rfl⟩ := h
  have hvc := slU_cells hv
  have hvi := slU_isCell hv
  have hat := drR_at (l := l) (cu0 0 (by omega))
  have r1 := hat.1
  have r2 : (drR l (0, 0)).2.1 ≤ 900 := by have := hat.2; omega
  refine is.go hm hΓ k_DrawChanceFalse o_DrawChanceFalse (by simp [a_DrawChanceFalse]) ?_
  simp only [a_DrawChanceFalse, h_drawn7, c_drawn7, h_doubt7, c_doubt7, hv, hvc, hvi, r1, r2, cuEta, Int.le_refl, (by decide : (0 : Int) ≤ 900), List.zipIdx_cons, List.zipIdx_nil, ↓SP, SQ, Gam.add, stepM, callC, argC, lendO, nmBy, nmC, likeL, likeB, plainOb, offs, exL, X, F, trP, trO, stepD, stepW, newA, SV.tr, SV.trL, fz, allP, Ob.tr, loadA, cellsA, SV.cells, binA, binI, eqOut, isSl, isPt, natOf, callee, snap, SV.refsL, SV.refs, thaw, fzAll, loA, hiA, elemOf, partsA, buildA, putCells, ↓reduceIte, reduceCtorEq, okCell, Nat.reduceAdd, Nat.reduceEqDiff, Nat.reduceSub, Nat.reduceMul, Nat.reduceLeDiff, Nat.reduceLT, Nat.reduceBEq, PV.scal, PV.scalL, SV.scal, SV.scalL, Ob.scal, PV.isCell, pure', resO]
  exact finA_val (by simp [hvc, retA, rvA, mkE_cons, mk_nil, mkO_cons, mkO_nil, loadA, SV.tr, SV.trL, nmF, rn_nil, rn_cons1, rn_cons2, plainOb, SV.refsL, SV.refs, Ob.refs, X, F, List.range_succ, mkO, setO_mk]) (by simp [SV.tr, SV.trL])
def rfX (j : Int) : List Int := [9, 8, 7, 10, 5, 0, 11].take (6 + j).toNat
def lsJ (l : List Int) (c : Cu) : Int := (pkV l 24 c).tdiv 22
def lsV (l : List Int) (c : Cu) : Int := amV l (rfX (lsJ l c)) (pkC l 24 c)
theorem lsJ_b {l : List Int} (hl : ∀ x ∈ l, 0 ≤ x ∧ x ≤ 255) {c : Cu} (h0 : 0 ≤ c.1) : lsJ l c = 0 ∨ lsJ l c = 1 := by
  have hb := pkV_b hl (n := 24) (c := c) h0
  have e : lsJ l c = pkV l 24 c / 22 := Int.tdiv_eq_ediv_of_nonneg hb.1
  omega
def a_DrawRepeatsFor (f_doubt7 : FuncId) (f_pick : FuncId) (f_among : FuncId) : AFn := ⟨1, 
  .seq (.reg [⟨some 2, none, .w (.alloc [.int .i64 0, .int .i64 0])⟩,
    ⟨some 3, none, .w (.alloc [.int .i64 0, .int .i64 0])⟩])
  (.seq (.reg [⟨some 7, none, .d (.mv (.t 0))⟩,
    ⟨some 8, none, .d (.build [.nilsl, .int .i64 0, .int .u64 0] [(0, 1, (.t 7))])⟩,
    ⟨some 9, none, .w (.box 3 (.t 8))⟩,
    ⟨some 4, none, .d (.mv (.t 9))⟩])
  (.seq (.reg [⟨some 10, none, .d (.mv (.t 4))⟩,
    ⟨some 11, none, .w (.callL (.f f_doubt7) [(.t 10)] [9] 0 false)⟩,
    ⟨some 5, none, .w (.alloc [.int .i64 0, .int .i64 0])⟩,
    ⟨none, none, .w (.store 2 (.t 5) (.t 11))⟩])
  (.seq (.reg [⟨some 12, none, .d (.mv (.t 4))⟩,
    ⟨some 13, none, .w (.bslice 1 [.int .i64 0, .int .i64 0, .int .i64 0, .int .i64 0, .int .i64 0, .int .i64 0, .int .i64 0] [(0, (.c (.int .i64 9))), (1, (.c (.int .i64 8))), (2, (.c (.int .i64 7))), (3, (.c (.int .i64 10))), (4, (.c (.int .i64 5))), (5, (.c (.int .i64 0))), (6, (.c (.int .i64 11)))])⟩,
    ⟨some 14, none, .d (.mv (.t 4))⟩,
    ⟨some 15, none, .w (.callL (.f f_pick) [(.t 14), (.c (.int .i64 24))] [9] 0 false)⟩,
    ⟨some 16, none, .d (.bin .arith .quo (.t 15) (.c (.int .i64 22)))⟩,
    ⟨some 17, none, .d (.bin .arith .add (.c (.int .i64 6)) (.t 16))⟩,
    ⟨some 18, none, .d (.slc 1 (.t 13) none (some (.t 17)))⟩,
    ⟨some 19, none, .w (.callL (.f f_among) [(.t 12), (.t 18)] [9] 0 true)⟩,
    ⟨some 20, none, .d (.build [.int .i64 0, .int .i64 0] [(0, 1, (.t 19)), (1, 1, (.c (.int .i64 10)))])⟩,
    ⟨some 6, none, .w (.alloc [.int .i64 0, .int .i64 0])⟩,
    ⟨none, none, .w (.store 2 (.t 6) (.t 20))⟩])
  (.seq (.dreg [] [([], ⟨some 21, none, .d (.load true 2 (.t 5))⟩),
    ([2], ⟨some 22, none, .d (.load true 2 (.t 6))⟩),
    ([], ⟨none, none, .w (.store 2 (.t 2) (.t 21))⟩)] [⟨none, none, .w (.store 2 (.t 3) (.t 22))⟩])
  (.ret))))), [.cell 2 2 true, .cell 3 2 true]⟩
def n_DrawRepeatsFor : Nat → Option Ann := fun d => if d = 11 then some ⟨[9], 0, false⟩ else if d = 15 then some ⟨[9], 0, false⟩ else if d = 19 then some ⟨[9], 0, true⟩ else none
abbrev k_DrawRepeatsFor : List Nat := [0, 2, 3, 4, 5, 6]
abbrev o_DrawRepeatsFor : List Nat := [2, 3, 5, 6, 9, 13]
def c_DrawRepeatsFor : Con := pure' fun
  | [.p v] => match slU v with
    | some l => some (.tp [.ag [.p (.int .i64 (dbR l (0, 0)).1.1), .p (.int .i64 (dbR l (0, 0)).1.2)], .ag [.p (.int .i64 (lsV l (dbR l (0, 0)).2)), .p (.int .i64 10)]], [])
    | none => none
  | _ => none
theorem s_DrawRepeatsFor {P : Program} (hm : P.follows .mixedOrders = true) {Γ : Gam} (hΓ : GS P Γ) {n : FuncId} {f_doubt7 : FuncId} {f_pick : FuncId} {f_among : FuncId} (is : Is P n (a_DrawRepeatsFor f_doubt7 f_pick f_among)) (h_doubt7 : Γ f_doubt7 = c_doubt7) (h_pick : Γ f_pick = c_pick) (h_among : Γ f_among = c_among)  : Says P n c_DrawRepeatsFor := by
  refine Says.pure fun args r fs h => ?_
  split at h
  case h_2 => cases h
  rename_i v
  split at h
  case h_2 => cases h
  rename_i l hv
  simp only [Option.some.injEq, Prod.mk.injEq] at h
  obtain ⟨rfl, rfl⟩ := h
  have hl := (slU_out hv).2
  have hvc := slU_cells hv
  have hvi := slU_isCell hv
  have hat := dbR_at (l := l) (cu0 0 (by omega))
  have r1 := hat.1
  have r2 : (dbR l (0, 0)).2.1 ≤ 1000 := by have := hat.2; omega
  have hat2 := hat.pk l 24
  have r3 := hat2.1
  have r4 : (pkC l 24 (dbR l (0, 0)).2).1 ≤ 1000 := by have := hat2.2; omega
  have n22 : ¬ (22 : Int) = 0 := by decide
  rcases lsJ_b hl (c := (dbR l (0, 0)).2) r1 with hj | hj
  · have hjw : IntKind.i64.wrap ((pkV l 24 (dbR l (0, 0)).2).tdiv 22) = 0 := by
      have e : (pkV l 24 (dbR l (0, 0)).2).tdiv 22 = 0 := hj
      rw [e]; rfl
    have hjs : IntKind.i64.wrap (6 + 0) = 6 := rfl
    have e0 : amV l [9, 8, 7, 10, 5, 0] (pkC l 24 (dbR l (0, 0)).2) = lsV l (dbR l (0, 0)).2 := by simp only [lsV, hj]; rfl
    refine is.go hm hΓ k_DrawRepeatsFor o_DrawRepeatsFor (by simp [a_DrawRepeatsFor]) ?_
    simp only [a_DrawRepeatsFor, h_doubt7, c_doubt7, h_pick, c_pick, h_among, c_among, hv, hvc, hvi, r1, r2, r3, r4, n22, hjw, hjs, e0, cuEta, Int.le_refl, (by decide : (0 : Int) ≤ 900), (by decide : (24 : Int) ≤ 200), (by decide : (0 : Int) ≤ 6), isI, ofI, Int.cast_ofNat_Int, Int.reduceToNat, List.zipIdx_cons, List.zipIdx_nil, ↓SP, SQ, Gam.add, stepM, callC, argC, lendO, nmBy, nmC, likeL, likeB, plainOb, offs, exL, X, F, trP, trO, stepD, stepW, newA, SV.tr, SV.trL, fz, allP, Ob.tr, loadA, cellsA, SV.cells, binA, binI, eqOut, isSl, isPt, natOf, callee, snap, SV.refsL, SV.refs, thaw, fzAll, loA, hiA, elemOf, partsA, buildA, putCells, ↓reduceIte, reduceCtorEq, okCell, Nat.reduceAdd, Nat.reduceEqDiff, Nat.reduceSub, Nat.reduceMul, Nat.reduceLeDiff, Nat.reduceLT, Nat.reduceBEq, PV.scal, PV.scalL, SV.scal, SV.scalL, Ob.scal, PV.isCell, pure', resO]
    exact finA_val (by simp [hvc, retA, rvA, mkE_cons, mk_nil, mkO_cons, mkO_nil, loadA, SV.tr, SV.trL, nmF, rn_nil, rn_cons1, rn_cons2, plainOb, SV.refsL, SV.refs, Ob.refs, X, F, List.range_succ, mkO, setO_mk]) (by simp [SV.tr, SV.trL])
  · have hjw : IntKind.i64.wrap ((pkV l 24 (dbR l (0, 0)).2).tdiv 22) = 1 := by
      have e : (pkV l 24 (dbR l (0, 0)).2).tdiv 22 = 1 := hj
      rw [e]; rfl
    have hjs : IntKind.i64.wrap (6 + 1) = 7 := rfl
    have e0 : amV l [9, 8, 7, 10, 5, 0, 11] (pkC l 24 (dbR l (0, 0)).2) = lsV l (dbR l (0, 0)).2 := by simp only [lsV, hj]; rfl
    refine is.go hm hΓ k_DrawRepeatsFor o_DrawRepeatsFor (by simp [a_DrawRepeatsFor]) ?_
    simp only [a_DrawRepeatsFor, h_doubt7, c_doubt7, h_pick, c_pick, h_among, c_among, hv, hvc, hvi, r1, r2, r3, r4, n22, hjw, hjs, e0, cuEta, Int.le_refl, (by decide : (0 : Int) ≤ 900), (by decide : (24 : Int) ≤ 200), (by decide : (0 : Int) ≤ 7), isI, ofI, Int.cast_ofNat_Int, Int.reduceToNat, List.zipIdx_cons, List.zipIdx_nil, ↓SP, SQ, Gam.add, stepM, callC, argC, lendO, nmBy, nmC, likeL, likeB, plainOb, offs, exL, X, F, trP, trO, stepD, stepW, newA, SV.tr, SV.trL, fz, allP, Ob.tr, loadA, cellsA, SV.cells, binA, binI, eqOut, isSl, isPt, natOf, callee, snap, SV.refsL, SV.refs, thaw, fzAll, loA, hiA, elemOf, partsA, buildA, putCells, ↓reduceIte, reduceCtorEq, okCell, Nat.reduceAdd, Nat.reduceEqDiff, Nat.reduceSub, Nat.reduceMul, Nat.reduceLeDiff, Nat.reduceLT, Nat.reduceBEq, PV.scal, PV.scalL, SV.scal, SV.scalL, Ob.scal, PV.isCell, pure', resO]
    exact finA_val (by simp [hvc, retA, rvA, mkE_cons, mk_nil, mkO_cons, mkO_nil, loadA, SV.tr, SV.trL, nmF, rn_nil, rn_cons1, rn_cons2, plainOb, SV.refsL, SV.refs, Ob.refs, X, F, List.range_succ, mkO, setO_mk]) (by simp [SV.tr, SV.trL])
def rd (a b : Nat) : Nat × Nat := (a / Nat.gcd a b, b / Nat.gcd a b)
theorem cuF_rd (a b : Nat) : cuF a b = (((rd a b).1 : Int), ((rd a b).2 : Int)) := rfl
def sS (s o m i : Nat) : Nat × Nat := rd (inB s o m i) (o ^ m)
def cS (s o m i : Nat) : Nat × Nat := rd (Wn m i * partN s o m i) (o ^ m)
theorem sum_all : (allD.all fun x => (List.range 13).all fun m => decide (sS x.1 x.2 m 0 = (0, 1)) && decide (sS x.1 x.2 m (m + 1) = (1, 1)) && (List.range (m + 1)).all fun i => okV (sS x.1 x.2 m i) (cS x.1 x.2 m i) && decide (vpl (sS x.1 x.2 m i) (cS x.1 x.2 m i) = sS x.1 x.2 m (i + 1))) = true := by decide +kernel
theorem sum_of {s o : Int} (h : isD s o = true) {m : Nat} (hm : m ≤ 12) : sS s.toNat o.toNat m 0 = (0, 1) ∧ sS s.toNat o.toNat m (m + 1) = (1, 1) ∧ ∀ i, i ≤ m → okV (sS s.toNat o.toNat m i) (cS s.toNat o.toNat m i) = true ∧ vpl (sS s.toNat o.toNat m i) (cS s.toNat o.toNat m i) = sS s.toNat o.toNat m (i + 1) := by
  have h1 := List.all_eq_true.1 (List.all_eq_true.1 sum_all _ (mem_allD h)) m (List.mem_range.2 (by omega))
  simp only [Bool.and_eq_true, decide_eq_true_eq, List.all_eq_true, List.mem_range] at h1
  exact ⟨h1.1.1, h1.1.2, fun i hi => h1.2 i (by omega)⟩
def vlB (a b : Nat × Nat) : Bool := decide (a.1 * (b.2 / Nat.gcd a.2 b.2) < b.1 * (a.2 / Nat.gcd a.2 b.2))
theorem less_all : (allD.all fun x => (List.range 11).all fun c => (List.range 6).all fun j => vlB (rd (inB x.1 x.2 (2 * j + 1) (j + 1)) (x.2 ^ (2 * j + 1))) (c, 10) == !rfP x.1 x.2 c 10 j) = true := by decide +kernel
theorem less_of {s o : Int} (h : isD s o = true) {c : Nat} (hc : c ≤ 10) {j : Nat} (hj : j < 6) : vlB (rd (inB s.toNat o.toNat (2 * j + 1) (j + 1)) (o.toNat ^ (2 * j + 1))) (c, 10) = !rfP s.toNat o.toNat c 10 j := by
  have h1 := List.all_eq_true.1 (List.all_eq_true.1 (List.all_eq_true.1 less_all _ (mem_allD h)) c (List.mem_range.2 (by omega))) j (List.mem_range.2 hj)
  simpa using h1
theorem rd_bd (a b : Nat) (hb : 0 < b) : (rd a b).1 ≤ a ∧ 1 ≤ (rd a b).2 ∧ (rd a b).2 ≤ b := by
  have hg : 0 < Nat.gcd a b := Nat.gcd_pos_of_pos_right a hb
  exact ⟨Nat.div_le_self _ _, Nat.div_pos (Nat.le_of_dvd hb (Nat.gcd_dvd_right a b)) hg, Nat.div_le_self _ _⟩
end Go.Proofs.Ytmbljmolegalhaa.Pam
