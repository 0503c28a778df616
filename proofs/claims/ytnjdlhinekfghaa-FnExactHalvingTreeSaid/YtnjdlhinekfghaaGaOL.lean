/- A part of the proof that stands in this folder: a small machine whose steps are shown to be the steps of the model, or walks of functions by it. No condition of its own. -/
import Derived.Test.YtnjdlhinekfghaaGaOA
set_option linter.unusedVariables false
set_option linter.unusedSimpArgs false
namespace Go.Proofs.Ytnjdlhinekfghaa.Pam
open Go
inductive Br where
  | lf
  | nd (q : Int) (y n : Br)
def brV : Br → PV
  | .lf => .cp [.int .i64 0, .np, .np]
  | .nd q y n => .cp [.int .i64 q, brV y, brV n]
def brN : Br → Nat
  | .lf => 1
  | .nd _ y n => 1 + brN y + brN n
def trB : Br → Int → List Nd
  | .lf, _ => [(-1, -1, -1)]
  | .nd q y n, a => (q, a + 1, a + 1 + brN y) :: (trB y (a + 1) ++ trB n (a + 1 + brN y))
theorem trB_len : ∀ (t : Br) (a : Int), (trB t a).length = brN t
  | .lf, _ => rfl
  | .nd q y n, a => by simp only [trB, List.length_cons, List.length_append, trB_len y, trB_len n, brN]; omega
theorem brV_inj : ∀ {s t : Br}, brV s = brV t → s = t
  | .lf, .lf, _ => rfl
  | .lf, .nd q y n, h => by
    simp only [brV, PV.cp.injEq, List.cons.injEq, and_true] at h
    cases y <;> simp [brV] at h
  | .nd q y n, .lf, h => by
    simp only [brV, PV.cp.injEq, List.cons.injEq, and_true] at h
    cases y <;> simp [brV] at h
  | .nd q y n, .nd q' y' n', h => by
    simp only [brV, PV.cp.injEq, List.cons.injEq, and_true, PV.int.injEq, true_and] at h
    obtain ⟨rfl, h1, h2⟩ := h
    rw [brV_inj h1, brV_inj h2]
def a_tree1 : AFn := ⟨3, 
  .seq (.reg [⟨some 6, none, .d (.fa 0 (.t 1))⟩,
    ⟨some 7, none, .d (.load false 1 (.t 6))⟩,
    ⟨some 8, none, .d (.len (.t 7))⟩,
    ⟨some 4, none, .d (.mv (.t 8))⟩])
  (.seq (.reg [⟨some 9, none, .d (.fa 0 (.t 1))⟩,
    ⟨some 10, none, .d (.load false 1 (.t 9))⟩,
    ⟨some 11, none, .d (.build [.int .i64 0, .int .i64 0, .int .i64 0] [(0, 1, (.c (.int .i64 (-1)))), (1, 1, (.c (.int .i64 (-1)))), (2, 1, (.c (.int .i64 (-1))))])⟩,
    ⟨some 12, none, .w (.bslice 3 [.agg [.int .i64 0, .int .i64 0, .int .i64 0]] [(0, (.t 11))])⟩,
    ⟨some 13, none, .w (.append 3 (.t 10) (.t 12))⟩,
    ⟨some 14, none, .d (.fa 0 (.t 1))⟩,
    ⟨none, none, .w (.store 1 (.t 14) (.t 13))⟩])
  (.seq (.seq (.reg [⟨some 15, none, .d (.mv (.t 0))⟩,
    ⟨some 16, none, .d (.nilck (.t 15))⟩,
    ⟨some 17, none, .d (.fa 1 (.t 16))⟩,
    ⟨some 18, none, .d (.load false 1 (.t 17))⟩,
    ⟨some 19, none, .d (.bin .ptr .eql (.t 18) (.c (.np)))⟩])
  (.cond (.t 19) (.ret) (.skip)))
  (.seq (.dreg [] [([], ⟨some 20, none, .d (.load false 1 (.t 2))⟩),
    ([], ⟨some 21, none, .d (.mv (.t 0))⟩),
    ([], ⟨some 22, none, .d (.nilck (.t 21))⟩),
    ([], ⟨some 23, none, .d (.fa 1 (.t 22))⟩),
    ([], ⟨some 24, none, .d (.load false 1 (.t 23))⟩)] [⟨some 25, none, .w (.callL (.t 20) [(.t 24)] [1000000, 1000001, 900002, 13] 101 false)⟩])
  (.seq (.reg [⟨some 26, none, .d (.fa 0 (.t 1))⟩,
    ⟨some 27, none, .d (.load false 1 (.t 26))⟩,
    ⟨some 28, none, .d (.len (.t 27))⟩,
    ⟨some 5, none, .d (.mv (.t 28))⟩])
  (.seq (.dreg [] [([], ⟨some 29, none, .d (.load false 1 (.t 2))⟩),
    ([], ⟨some 30, none, .d (.mv (.t 0))⟩),
    ([], ⟨some 31, none, .d (.nilck (.t 30))⟩),
    ([], ⟨some 32, none, .d (.fa 2 (.t 31))⟩),
    ([], ⟨some 33, none, .d (.load false 1 (.t 32))⟩)] [⟨some 34, none, .w (.callL (.t 29) [(.t 33)] [1000000, 1000001, 25] 101 false)⟩])
  (.dreg [] [([], ⟨some 35, none, .d (.fa 0 (.t 1))⟩),
    ([], ⟨some 36, none, .d (.load false 1 (.t 35))⟩),
    ([], ⟨some 37, none, .d (.mv (.t 4))⟩),
    ([], ⟨some 38, none, .d (.mv (.t 0))⟩),
    ([], ⟨some 39, none, .d (.nilck (.t 38))⟩),
    ([], ⟨some 40, none, .d (.fa 0 (.t 39))⟩),
    ([], ⟨some 41, none, .d (.load false 1 (.t 40))⟩),
    ([], ⟨some 42, none, .d (.mv (.t 4))⟩),
    ([], ⟨some 43, none, .d (.bin .arith .add (.t 42) (.c (.int .i64 1)))⟩),
    ([], ⟨some 44, none, .d (.mv (.t 5))⟩),
    ([], ⟨some 45, none, .d (.build [.int .i64 0, .int .i64 0, .int .i64 0] [(0, 1, (.t 41)), (1, 1, (.t 43)), (2, 1, (.t 44))])⟩)] [⟨some 46, none, .d (.ia 3 (.t 36) (.t 37))⟩,
    ⟨none, none, .w (.store 3 (.t 46) (.t 45))⟩])))))), []⟩
def n_tree1 : Nat → Option Ann := fun d => if d = 25 then some ⟨[1000000, 1000001, 900002, 13], 101, false⟩ else if d = 34 then some ⟨[1000000, 1000001, 25], 101, false⟩ else none
abbrev k_tree1 : List Nat := [0, 1, 2, 4, 5, 19]
abbrev o_tree1 : List Nat := [12, 13, 25, 34]
open Classical in
noncomputable def c_tree1 (f : FuncId) : Con := fun args ext => match args, ext with
  | [.p v, .bx 1000000 0, .bx 1000001 0], [.box [.p .nilsl], .box [.cl g [] [.bx 1000000 0, .bx 1000001 0]]] => if h : g = f ∧ ∃ t, v = brV t ∧ brN t ≤ 1000 then some (.tp [], [.box [.ar 2000000], .box [.cl g [] [.bx 1000000 0, .bx 1000001 0]]], [.arr 3 (nds (trB (Classical.choose h.2) 0))]) else none
  | [.p v, .bx 1000000 0, .bx 1000001 0], [.box [.ar 1000002], .box [.cl g [] [.bx 1000000 0, .bx 1000001 0]], .arr 3 xs] => if h : g = f ∧ ∃ t, v = brV t ∧ brN t ≤ 1000 ∧ isNs xs = true ∧ xs.length + brN t ≤ 2000 then some (.tp [], [.box [.ar 2000000], .box [.cl g [] [.bx 1000000 0, .bx 1000001 0]], .box []], [.arr 3 (nds (ofNs xs ++ trB (Classical.choose h.2) xs.length))]) else none
  | _, _ => none
theorem tree1_0 (f : FuncId) (t : Br) (h : brN t ≤ 1000) : c_tree1 f [.p (brV t), .bx 1000000 0, .bx 1000001 0] [.box [.p .nilsl], .box [.cl f [] [.bx 1000000 0, .bx 1000001 0]]] = some (.tp [], [.box [.ar 2000000], .box [.cl f [] [.bx 1000000 0, .bx 1000001 0]]], [.arr 3 (nds (trB t 0))]) := by
  have hx : f = f ∧ ∃ s, brV t = brV s ∧ brN s ≤ 1000 := ⟨rfl, t, rfl, h⟩
  simp only [c_tree1]
  rw [dif_pos hx]
  have := (Classical.choose_spec hx.2).1
  rw [← brV_inj this]
theorem tree1_1 (f : FuncId) (t : Br) (l : List Nd) (h : brN t ≤ 1000) (hl : l.length + brN t ≤ 2000) : c_tree1 f [.p (brV t), .bx 1000000 0, .bx 1000001 0] [.box [.ar 1000002], .box [.cl f [] [.bx 1000000 0, .bx 1000001 0]], .arr 3 (nds l)] = some (.tp [], [.box [.ar 2000000], .box [.cl f [] [.bx 1000000 0, .bx 1000001 0]], .box []], [.arr 3 (nds (l ++ trB t l.length))]) := by
  have hx : f = f ∧ ∃ s, brV t = brV s ∧ brN s ≤ 1000 ∧ isNs (nds l) = true ∧ (nds l).length + brN s ≤ 2000 := ⟨rfl, t, rfl, h, isNs_nds l, by rw [nds_len]; exact hl⟩
  simp only [c_tree1]
  rw [dif_pos hx]
  have := (Classical.choose_spec hx.2).1
  rw [← brV_inj this, ofNs_nds, nds_len]
open Classical in
noncomputable def muT : List SV → List Ob → Nat := fun args _ => match args with
  | .p v :: _ => if h : ∃ t, v = brV t then brN (Classical.choose h) else 0
  | _ => 0
theorem muT_eq (t : Br) (r : List SV) (ext : List Ob) : muT (.p (brV t) :: r) ext = brN t := by
  have hx : ∃ s, brV t = brV s := ⟨t, rfl⟩
  simp only [muT]
  rw [dif_pos hx, ← brV_inj (Classical.choose_spec hx)]
theorem brN_pos : ∀ t, 1 ≤ brN t
  | .lf => Nat.le_refl _
  | .nd _ _ _ => by simp only [brN]; omega
theorem c_tree1_out {f : FuncId} {args : List SV} {ext ext' fs : List Ob} {r : SV} (h : c_tree1 f args ext = some (r, ext', fs)) : ∃ t, brN t ≤ 1000 ∧ args = [.p (brV t), .bx 1000000 0, .bx 1000001 0] ∧ ((ext = [.box [.p .nilsl], .box [.cl f [] [.bx 1000000 0, .bx 1000001 0]]] ∧ r = .tp [] ∧ ext' = [.box [.ar 2000000], .box [.cl f [] [.bx 1000000 0, .bx 1000001 0]]] ∧ fs = [.arr 3 (nds (trB t 0))]) ∨
    ∃ l : List Nd, l.length + brN t ≤ 2000 ∧ ext = [.box [.ar 1000002], .box [.cl f [] [.bx 1000000 0, .bx 1000001 0]], .arr 3 (nds l)] ∧ r = .tp [] ∧ ext' = [.box [.ar 2000000], .box [.cl f [] [.bx 1000000 0, .bx 1000001 0]], .box []] ∧ fs = [.arr 3 (nds (l ++ trB t l.length))]) := by
  unfold c_tree1 at h
  split at h
  · split at h
    · rename_i hx
      obtain ⟨rfl, hx2⟩ := id hx
      have h1 := Classical.choose_spec hx.2
      generalize Classical.choose hx.2 = t at *
      simp only [Option.some.injEq, Prod.mk.injEq] at h
      obtain ⟨rfl, rfl, rfl⟩ := h
      exact ⟨t, h1.2, by rw [h1.1], .inl ⟨rfl, rfl, rfl, rfl⟩⟩
    · cases h
  · split at h
    · rename_i hx
      obtain ⟨rfl, hx2⟩ := id hx
      have h1 := Classical.choose_spec hx.2
      generalize Classical.choose hx.2 = t at *
      obtain ⟨h1, h2, h3, h4⟩ := h1
      obtain ⟨l, rfl⟩ := isNs_out h3
      simp only [Option.some.injEq, Prod.mk.injEq, ofNs_nds, nds_len] at h h4
      obtain ⟨rfl, rfl, rfl⟩ := h
      exact ⟨t, h2, by rw [h1], .inr ⟨l, h4, rfl, rfl, rfl, rfl⟩⟩
    · cases h
  · cases h
theorem nds_1x : nds [(-1, -1, -1)] = [PV.agg [.int .i64 (-1), .int .i64 (-1), .int .i64 (-1)]] := rfl
theorem tree1_walk {P : Program} (hm : P.follows .mixedOrders = true) {Γ : Gam} (hΓ : GS P Γ) {n : FuncId} {k : Nat} (is : Is P n a_tree1) (h_self : Γ n = lim muT k (c_tree1 n)) : ∀ args ext r ext' fs, c_tree1 n args ext = some (r, ext', fs) → muT args ext = k → PC P n args ext r ext' fs := by
  intro args ext r ext' fs h hmu
  obtain ⟨t, ht, rfl, hc⟩ := c_tree1_out h
  rw [muT_eq] at hmu
  have g0 : gvN [] 1000000 = some 1000000 := rfl
  have g1 : gvN [] 1000001 = some 1000001 := rfl
  have m0 : gvM [] 0 = 1000000 := rfl
  have m1 : gvM [] 1 = 1000001 := rfl
  have g20 : gvN [2] 1000000 = some 1000000 := rfl
  have g21 : gvN [2] 1000001 = some 1000001 := rfl
  have g22 : gvN [2] 1000002 = some 900002 := rfl
  have m20 : gvM [2] 0 = 1000000 := rfl
  have m21 : gvM [2] 1 = 1000001 := rfl
  have m22 : gvM [2] 2 = 900002 := rfl
  have nn : ndE (-1, -1, -1) = .agg [.int .i64 (-1), .int .i64 (-1), .int .i64 (-1)] := rfl
  have hro : 1 ≤ roomA := by decide
  cases t with
  | lf =>
    rcases hc with ⟨rfl, rfl, rfl, rfl⟩ | ⟨l, hl, rfl, rfl, rfl, rfl⟩
    · refine is.goG hm hΓ k_tree1 (1000000 :: 1000001 :: o_tree1) [] (by simp [a_tree1]) (by simp) ?_
      simp only [a_tree1, brV, g0, g1, m0, m1, hro, List.zipIdx_cons, List.zipIdx_nil, ↓SP, SQ, Gam.add, stepM, callC, argC, lendO, nmBy, nmC, likeL, likeB, plainOb, offs, exL, X, F, trP, trO, stepD, stepW, newA, SV.tr, SV.trL, fz, allP, Ob.tr, loadA, cellsA, SV.cells, binA, binI, eqOut, isSl, isPt, natOf, callee, snap, SV.refsL, SV.refs, thaw, fzAll, loA, hiA, elemOf, partsA, buildA, putCells, ↓reduceIte, reduceCtorEq, okCell, Nat.reduceAdd, Nat.reduceEqDiff, Nat.reduceSub, Nat.reduceMul, Nat.reduceLeDiff, Nat.reduceLT, Nat.reduceBEq, PV.scal, PV.scalL, SV.scal, SV.scalL, Ob.scal, PV.isCell, pure', resO]
      refine finG_gen [13] trivial (by simp [retA, rvA, mkE_cons, mk_nil, mkO_cons, mkO_nil, loadA, SV.tr, SV.trL, nmF, rn_nil, rn_cons1, rn_cons2, plainOb, SV.refsL, SV.refs, Ob.refs, X, F, List.range_succ, mkO, setO_mk]; rfl) ?_ ?_ ?_ ?_ ?_ ?_ <;> simp [trB, nds, ndE, goneAt, gone, Ob.tr, retA, rvA, mkE_cons, mk_nil, mkO_cons, mkO_nil, loadA, SV.tr, SV.trL, nmF, rn_nil, rn_cons1, rn_cons2, plainOb, SV.refsL, SV.refs, Ob.refs, X, F, List.range_succ, mkO, setO_mk]
    · have hro2 : l.length + 1 ≤ roomA := Nat.le_trans (by simp only [brN] at hl; omega) (by decide : 3000 ≤ roomA)
      refine is.goG hm hΓ k_tree1 (1000000 :: 1000001 :: 900002 :: o_tree1) [2] (by simp [a_tree1]) (by simp) ?_
      simp only [a_tree1, brV, g20, g21, g22, m20, m21, m22, hro, hro2, nds_len, nds_app1, nds_cell, List.zipIdx_cons, List.zipIdx_nil, ↓SP, SQ, Gam.add, stepM, callC, argC, lendO, nmBy, nmC, likeL, likeB, plainOb, offs, exL, X, F, trP, trO, stepD, stepW, newA, SV.tr, SV.trL, fz, allP, Ob.tr, loadA, cellsA, SV.cells, binA, binI, eqOut, isSl, isPt, natOf, callee, snap, SV.refsL, SV.refs, thaw, fzAll, loA, hiA, elemOf, partsA, buildA, putCells, ↓reduceIte, reduceCtorEq, okCell, Nat.reduceAdd, Nat.reduceEqDiff, Nat.reduceSub, Nat.reduceMul, Nat.reduceLeDiff, Nat.reduceLT, Nat.reduceBEq, PV.scal, PV.scalL, SV.scal, SV.scalL, Ob.scal, PV.isCell, pure', resO]
      refine finG_gen [900002] trivial (by simp [retA, rvA, mkE_cons, mk_nil, mkO_cons, mkO_nil, loadA, SV.tr, SV.trL, nmF, rn_nil, rn_cons1, rn_cons2, plainOb, SV.refsL, SV.refs, Ob.refs, X, F, List.range_succ, mkO, setO_mk]; rfl) ?_ ?_ ?_ ?_ ?_ ?_ <;> simp [trB, goneAt, gone, Ob.tr, retA, rvA, mkE_cons, mk_nil, mkO_cons, mkO_nil, loadA, SV.tr, SV.trL, nmF, rn_nil, rn_cons1, rn_cons2, plainOb, SV.refsL, SV.refs, Ob.refs, X, F, List.range_succ, mkO, setO_mk]
  | nd q y n' =>
    obtain ⟨cy, hy⟩ : ∃ c, brV y = .cp c := by cases y <;> exact ⟨_, rfl⟩
    obtain ⟨cn, hn⟩ : ∃ c, brV n' = .cp c := by cases n' <;> exact ⟨_, rfl⟩
    have hmy : ∀ r ext, muT (.p (.cp cy) :: r) ext = brN y := fun r ext => by rw [← hy]; exact muT_eq y r ext
    have hmn : ∀ r ext, muT (.p (.cp cn) :: r) ext = brN n' := fun r ext => by rw [← hn]; exact muT_eq n' r ext
    have py := brN_pos y
    have pn := brN_pos n'
    simp only [brN] at ht hmu
    have hly : brN y < k := by omega
    have hln : brN n' < k := by omega
    rcases hc with ⟨rfl, rfl, rfl, rfl⟩ | ⟨l, hl, rfl, rfl, rfl, rfl⟩
    · obtain ⟨L1, hL1⟩ : ∃ L, L = [(-1, -1, -1)] ++ trB y ([(-1, -1, -1)].length : Nat) := ⟨_, rfl⟩
      obtain ⟨L2, hL2⟩ : ∃ L, L = L1 ++ trB n' (L1.length : Nat) := ⟨_, rfl⟩
      have k1 : L1.length = 0 + 1 + brN y := by rw [hL1, List.length_append, trB_len]; simp
      have r1 := tree1_1 n y [(-1, -1, -1)] (by omega) (by simp; omega)
      rw [← hL1, hy] at r1
      rw [nds_1x] at r1
      have r2 := tree1_1 n n' L1 (by omega) (by omega)
      rw [← hL2, hn] at r2
      have k2 : L2.length = 0 + 1 + brN y + brN n' := by rw [hL2, List.length_append, trB_len, k1]
      have hlt : 0 < L2.length := by omega
      have hw : IntKind.i64.wrap (((0 : Nat) : Int) + 1) = ((0 : Nat) : Int) + 1 := wrap64 (by omega) (by omega)
      have hget := nds_get hlt
      have ek : (L1.length : Int) = ((0 : Nat) : Int) + 1 + brN y := by omega
      have ea : (([(-1, -1, -1)].length : Nat) : Int) = ((0 : Nat) : Int) + 1 := by simp
      have hL1' : L1 = [(-1, -1, -1)] ++ trB y (((0 : Nat) : Int) + 1) := by rw [hL1, ea]
      have hL2' : L2 = [(-1, -1, -1)] ++ (trB y (((0 : Nat) : Int) + 1) ++ trB n' (((0 : Nat) : Int) + 1 + brN y)) := by rw [hL2, ek, hL1', List.append_assoc]
      have hfin : L2.set 0 (q, ((0 : Nat) : Int) + 1, (L1.length : Int)) = trB (.nd q y n') 0 := by
        rw [ek, hL2']
        rfl
      skip
      refine is.goG hm hΓ k_tree1 (1000000 :: 1000001 :: o_tree1) [] (by simp [a_tree1]) (by simp) ?_
      simp only [a_tree1, brV, hy, hn, g0, g1, m0, m1, hro, nds_len, h_self, lim, hmy, hmn, hly, hln, r1, r2, hw, hlt, hget, nds_set, hfin, callG, likeG, gone, goneN, goneAt, updG, nmG, killE_mk, killO_mk, killT, killL, Int.toNat_natCast, Int.natCast_nonneg, List.zipIdx_cons, List.zipIdx_nil, ↓SP, SQ, Gam.add, stepM, callC, argC, lendO, nmBy, nmC, likeL, likeB, plainOb, offs, exL, X, F, trP, trO, stepD, stepW, newA, SV.tr, SV.trL, fz, allP, Ob.tr, loadA, cellsA, SV.cells, binA, binI, eqOut, isSl, isPt, natOf, callee, snap, SV.refsL, SV.refs, thaw, fzAll, loA, hiA, elemOf, partsA, buildA, putCells, ↓reduceIte, reduceCtorEq, okCell, Nat.reduceAdd, Nat.reduceEqDiff, Nat.reduceSub, Nat.reduceMul, Nat.reduceLeDiff, Nat.reduceLT, Nat.reduceBEq, PV.scal, PV.scalL, SV.scal, SV.scalL, Ob.scal, PV.isCell, pure', resO]
      trace_state
      refine finG_gen [34] trivial (by simp [retA, rvA, mkE_cons, mk_nil, mkO_cons, mkO_nil, loadA, SV.tr, SV.trL, nmF, rn_nil, rn_cons1, rn_cons2, plainOb, SV.refsL, SV.refs, Ob.refs, X, F, List.range_succ, mkO, setO_mk]; rfl) ?_ ?_ ?_ ?_ ?_ ?_ <;> simp [goneAt, gone, Ob.tr, retA, rvA, mkE_cons, mk_nil, mkO_cons, mkO_nil, loadA, SV.tr, SV.trL, nmF, rn_nil, rn_cons1, rn_cons2, plainOb, SV.refsL, SV.refs, Ob.refs, X, F, List.range_succ, mkO, setO_mk]
    · simp only [brN] at hl
      obtain ⟨L1, hL1⟩ : ∃ L, L = (l ++ [(-1, -1, -1)]) ++ trB y ((l ++ [(-1, -1, -1)]).length : Nat) := ⟨_, rfl⟩
      obtain ⟨L2, hL2⟩ : ∃ L, L = L1 ++ trB n' (L1.length : Nat) := ⟨_, rfl⟩
      have k1 : L1.length = l.length + 1 + brN y := by rw [hL1, List.length_append, trB_len]; simp
      have r1 := tree1_1 n y (l ++ [(-1, -1, -1)]) (by omega) (by simp; omega)
      rw [← hL1, hy] at r1
      skip
      have r2 := tree1_1 n n' L1 (by omega) (by omega)
      rw [← hL2, hn] at r2
      have k2 : L2.length = l.length + 1 + brN y + brN n' := by rw [hL2, List.length_append, trB_len, k1]
      have hlt : l.length < L2.length := by omega
      have hw : IntKind.i64.wrap ((l.length : Int) + 1) = (l.length : Int) + 1 := wrap64 (by omega) (by omega)
      have hget := nds_get hlt
      have ek : (L1.length : Int) = (l.length : Int) + 1 + brN y := by omega
      have ea : (((l ++ [(-1, -1, -1)]).length : Nat) : Int) = (l.length : Int) + 1 := by simp
      have hL1' : L1 = (l ++ [(-1, -1, -1)]) ++ trB y ((l.length : Int) + 1) := by rw [hL1, ea]
      have hL2' : L2 = (l ++ [(-1, -1, -1)]) ++ (trB y ((l.length : Int) + 1) ++ trB n' ((l.length : Int) + 1 + brN y)) := by rw [hL2, ek, hL1', List.append_assoc]
      have hfin : L2.set l.length (q, (l.length : Int) + 1, (L1.length : Int)) = l ++ trB (.nd q y n') (l.length : Int) := by
        rw [ek, hL2']
        rw [List.append_assoc, List.set_append_right _ _ (Nat.le_refl _), Nat.sub_self]; rfl
      have hro2 : l.length + 1 ≤ roomA := Nat.le_trans (by omega) (by decide : 3000 ≤ roomA)
      refine is.goG hm hΓ k_tree1 (1000000 :: 1000001 :: 900002 :: o_tree1) [2] (by simp [a_tree1]) (by simp) ?_
      simp only [a_tree1, brV, hy, hn, g20, g21, g22, m20, m21, m22, hro, hro2, nds_app1, nds_cell, nds_len, h_self, lim, hmy, hmn, hly, hln, r1, r2, hw, hlt, hget, nds_set, hfin, callG, likeG, gone, goneN, goneAt, updG, nmG, killE_mk, killO_mk, killT, killL, Int.toNat_natCast, Int.natCast_nonneg, List.zipIdx_cons, List.zipIdx_nil, ↓SP, SQ, Gam.add, stepM, callC, argC, lendO, nmBy, nmC, likeL, likeB, plainOb, offs, exL, X, F, trP, trO, stepD, stepW, newA, SV.tr, SV.trL, fz, allP, Ob.tr, loadA, cellsA, SV.cells, binA, binI, eqOut, isSl, isPt, natOf, callee, snap, SV.refsL, SV.refs, thaw, fzAll, loA, hiA, elemOf, partsA, buildA, putCells, ↓reduceIte, reduceCtorEq, okCell, Nat.reduceAdd, Nat.reduceEqDiff, Nat.reduceSub, Nat.reduceMul, Nat.reduceLeDiff, Nat.reduceLT, Nat.reduceBEq, PV.scal, PV.scalL, SV.scal, SV.scalL, Ob.scal, PV.isCell, pure', resO]
      trace_state
      refine finG_gen [34] trivial (by simp [retA, rvA, mkE_cons, mk_nil, mkO_cons, mkO_nil, loadA, SV.tr, SV.trL, nmF, rn_nil, rn_cons1, rn_cons2, plainOb, SV.refsL, SV.refs, Ob.refs, X, F, List.range_succ, mkO, setO_mk]; rfl) ?_ ?_ ?_ ?_ ?_ ?_ <;> simp [goneAt, gone, Ob.tr, retA, rvA, mkE_cons, mk_nil, mkO_cons, mkO_nil, loadA, SV.tr, SV.trL, nmF, rn_nil, rn_cons1, rn_cons2, plainOb, SV.refsL, SV.refs, Ob.refs, X, F, List.range_succ, mkO, setO_mk]
theorem allP_map : ∀ xs : List PV, allP (xs.map .p) = some xs
  | [] => rfl
  | x :: r => by simp only [List.map_cons, allP, allP_map r]; rfl
def brCs : Br → List PV
  | .lf => [.int .i64 0, .np, .np]
  | .nd q y n => [.int .i64 q, brV y, brV n]
theorem brV_cs (t : Br) : PV.cp (brCs t) = brV t := by cases t <;> rfl
theorem brV_cells (t : Br) : (brV t).cells = [brV t] := by cases t <;> rfl
theorem s_tree1 {P : Program} (hm : P.follows .mixedOrders = true) {Γ : Gam} (hΓ : GS P Γ) {n : FuncId} (is : Is P n a_tree1)  : Says P n (c_tree1 n) := by
  exact Says.rec hΓ muT fun k hk args ext r ext' fs h hmu => tree1_walk (k := k) hm hk is (by simp [Gam.addX]) args ext r ext' fs h hmu
def a_tree (f_tree1 : FuncId) : AFn := ⟨1, 
  .seq (.reg [⟨some 2, none, .w (.alloc [.nilsl])⟩])
  (.seq (.reg [⟨some 5, none, .d (.build [.nilsl] [])⟩,
    ⟨some 3, none, .w (.alloc [.nilsl])⟩,
    ⟨none, none, .w (.store 1 (.t 3) (.t 5))⟩])
  (.seq (.reg [⟨some 4, none, .w (.alloc [.nilfn])⟩])
  (.seq (.reg [⟨some 6, none, .d (.mkfn f_tree1 [] [(.t 3), (.t 4)])⟩,
    ⟨none, none, .w (.store 1 (.t 4) (.t 6))⟩])
  (.seq (.reg [⟨some 7, none, .d (.load false 1 (.t 4))⟩,
    ⟨some 8, none, .d (.mv (.t 0))⟩,
    ⟨some 9, none, .w (.callL (.t 7) [(.t 8)] [3, 4] 101 false)⟩])
  (.seq (.reg [⟨some 10, none, .d (.load true 1 (.t 3))⟩,
    ⟨none, none, .w (.store 1 (.t 2) (.t 10))⟩])
  (.ret)))))), [.cell 2 1 true]⟩
def n_tree : Nat → Option Ann := fun d => if d = 9 then some ⟨[3, 4], 101, false⟩ else none
abbrev k_tree : List Nat := [0, 2, 3, 4]
abbrev o_tree : List Nat := [2, 3, 4, 9]
open Classical in
noncomputable def c_tree : Con := pure' fun
  | [.p v] => if h : ∃ t, v = brV t ∧ brN t ≤ 1000 then some (.ag [.ar 2000000], [.arr 3 (nds (trB (Classical.choose h) 0))]) else none
  | _ => none
theorem tree_eq (t : Br) (h : brN t ≤ 1000) : c_tree [.p (brV t)] [] = some (.ag [.ar 2000000], [], [.arr 3 (nds (trB t 0))]) := by
  have hx : ∃ s, brV t = brV s ∧ brN s ≤ 1000 := ⟨t, rfl, h⟩
  simp only [c_tree, pure']
  rw [dif_pos hx, ← brV_inj (Classical.choose_spec hx).1]; rfl
theorem s_tree {P : Program} (hm : P.follows .mixedOrders = true) {Γ : Gam} (hΓ : GS P Γ) {n : FuncId} {f_tree1 : FuncId} (is : Is P n (a_tree f_tree1)) (h_tree1 : Γ f_tree1 = c_tree1 f_tree1) : Says P n c_tree := by
  refine Says.pure fun args r fs h => ?_
  split at h
  case h_2 => cases h
  rename_i v
  split at h
  case isFalse => cases h
  rename_i hx
  obtain ⟨hv, ht⟩ := Classical.choose_spec hx
  generalize Classical.choose hx = t at *
  simp only [Option.some.injEq, Prod.mk.injEq] at h
  obtain ⟨rfl, rfl⟩ := h
  subst hv
  have hr := tree1_0 f_tree1 t ht
  refine is.go hm hΓ k_tree o_tree (by simp [a_tree]) ?_
  simp only [a_tree, h_tree1, hr, callG, likeG, gone, goneN, goneAt, updG, nmG, killE_mk, killO_mk, killT, killL, List.zipIdx_cons, List.zipIdx_nil, ↓SP, SQ, Gam.add, stepM, callC, argC, lendO, nmBy, nmC, likeL, likeB, plainOb, offs, exL, X, F, trP, trO, stepD, stepW, newA, SV.tr, SV.trL, fz, allP, Ob.tr, loadA, cellsA, SV.cells, binA, binI, eqOut, isSl, isPt, natOf, callee, snap, SV.refsL, SV.refs, thaw, fzAll, loA, hiA, elemOf, partsA, buildA, putCells, ↓reduceIte, reduceCtorEq, okCell, Nat.reduceAdd, Nat.reduceEqDiff, Nat.reduceSub, Nat.reduceMul, Nat.reduceLeDiff, Nat.reduceLT, Nat.reduceBEq, PV.scal, PV.scalL, SV.scal, SV.scalL, Ob.scal, PV.isCell, pure', resO]
  refine finA_gen [9] trivial (by simp [retA, rvA, mkE_cons, mk_nil, mkO_cons, mkO_nil, loadA, SV.tr, SV.trL, nmF, rn_nil, rn_cons1, rn_cons2, plainOb, SV.refsL, SV.refs, Ob.refs, X, F, List.range_succ, mkO, setO_mk]; rfl) ?_ ?_ ?_ ?_ ?_ ?_ ?_ <;> simp [retA, rvA, mkE_cons, mk_nil, mkO_cons, mkO_nil, loadA, SV.tr, SV.trL, nmF, rn_nil, rn_cons1, rn_cons2, plainOb, SV.refsL, SV.refs, Ob.refs, X, F, List.range_succ, mkO, setO_mk]
def a_repeated (f_repeated : FuncId) : AFn := ⟨2, 
  .seq (.reg [⟨some 4, none, .d (.mv (.c (.np)))⟩])
  (.seq (.seq (.reg [⟨some 5, none, .d (.mv (.t 1))⟩,
    ⟨some 6, none, .d (.bin .arith .eql (.t 5) (.c (.int .i64 0)))⟩])
  (.cond (.t 6) (.seq (.reg [⟨some 7, none, .d (.build [.int .i64 0, .np, .np] [])⟩,
     ⟨some 8, none, .w (.box 3 (.t 7))⟩,
     ⟨some 4, none, .d (.mv (.t 8))⟩])
   (.ret)) (.skip)))
  (.seq (.reg [⟨some 9, none, .d (.mv (.t 0))⟩,
    ⟨some 10, none, .d (.mv (.t 0))⟩,
    ⟨some 11, none, .d (.mv (.t 1))⟩,
    ⟨some 12, none, .d (.bin .arith .sub (.t 11) (.c (.int .i64 1)))⟩,
    ⟨some 13, none, .d (.call (.f f_repeated) [(.t 10), (.t 12)])⟩,
    ⟨some 14, none, .d (.mv (.t 0))⟩,
    ⟨some 15, none, .d (.mv (.t 1))⟩,
    ⟨some 16, none, .d (.bin .arith .sub (.t 15) (.c (.int .i64 1)))⟩,
    ⟨some 17, none, .d (.call (.f f_repeated) [(.t 14), (.t 16)])⟩,
    ⟨some 18, none, .d (.build [.int .i64 0, .np, .np] [(0, 1, (.t 9)), (1, 1, (.t 13)), (2, 1, (.t 17))])⟩,
    ⟨some 19, none, .w (.box 3 (.t 18))⟩,
    ⟨some 4, none, .d (.mv (.t 19))⟩])
  (.ret))), [.tmp 4]⟩
def n_repeated : Nat → Option Ann := fun _ => none
abbrev k_repeated : List Nat := [0, 1, 4, 6]
abbrev o_repeated : List Nat := [8, 19]
def rpB (q : Int) : Nat → Br
  | 0 => .lf
  | n + 1 => .nd q (rpB q n) (rpB q n)
theorem rpB_N (q : Int) : ∀ n, brN (rpB q n) + 1 = 2 ^ (n + 1)
  | 0 => rfl
  | n + 1 => by
    have := rpB_N q n
    simp only [rpB, brN]
    rw [Nat.pow_succ]; omega
def c_repeated : Con := pure' fun
  | [.p (.int .i64 q), .p (.int .i64 n)] => if 0 ≤ n ∧ n ≤ 6 then some (.bx 2000000 0, [.box ((brCs (rpB q n.toNat)).map .p)]) else none
  | _ => none
def muR : List SV → List Ob → Nat := fun args _ => match args with
  | [_, .p (.int _ n)] => n.toNat
  | _ => 0
theorem repeated_walk {P : Program} (hm : P.follows .mixedOrders = true) {Γ : Gam} (hΓ : GS P Γ) {n f_repeated : FuncId} {k : Nat} (is : Is P n (a_repeated f_repeated)) (h_repeated : Γ f_repeated = lim muR k c_repeated) : ∀ args ext r ext' fs, c_repeated args ext = some (r, ext', fs) → muR args ext = k → PC P n args ext r ext' fs := by
  intro args ext r ext' fs h hmu
  unfold c_repeated pure' at h
  split at h
  case h_2 => cases h
  rename_i ext
  simp only [Option.map_eq_some_iff, Prod.mk.injEq] at h
  obtain ⟨⟨r0, fs0⟩, h, rfl, rfl, rfl⟩ := h
  split at h
  case h_2 => cases h
  rename_i q m
  split at h
  case isFalse => cases h
  rename_i hc
  simp only [Option.some.injEq, Prod.mk.injEq] at h
  obtain ⟨rfl, rfl⟩ := h
  obtain ⟨m, rfl⟩ : ∃ j : Nat, m = j := ⟨m.toNat, by omega⟩
  simp only [muR, Int.toNat_natCast] at hmu ⊢
  cases m with
  | zero =>
    refine is.go hm hΓ k_repeated o_repeated (by simp [a_repeated]) ?_
    simp only [a_repeated, (by decide : (((0 : Nat) : Int) == 0) = true), List.zipIdx_cons, List.zipIdx_nil, ↓SP, SQ, Gam.add, stepM, callC, argC, lendO, nmBy, nmC, likeL, likeB, plainOb, offs, exL, X, F, trP, trO, stepD, stepW, newA, SV.tr, SV.trL, fz, allP, Ob.tr, loadA, cellsA, SV.cells, binA, binI, eqOut, isSl, isPt, natOf, callee, snap, SV.refsL, SV.refs, thaw, fzAll, loA, hiA, elemOf, partsA, buildA, putCells, ↓reduceIte, reduceCtorEq, okCell, Nat.reduceAdd, Nat.reduceEqDiff, Nat.reduceSub, Nat.reduceMul, Nat.reduceLeDiff, Nat.reduceLT, Nat.reduceBEq, PV.scal, PV.scalL, SV.scal, SV.scalL, Ob.scal, PV.isCell, pure', resO]
    refine finA_gen [8] trivial (by simp [retA, rvA, mkE_cons, mk_nil, mkO_cons, mkO_nil, loadA, SV.tr, SV.trL, nmF, rn_nil, rn_cons1, rn_cons2, plainOb, SV.refsL, SV.refs, Ob.refs, X, F, List.range_succ, mkO, setO_mk]; rfl) ?_ ?_ ?_ ?_ ?_ ?_ ?_ <;> simp [rpB, brCs, retA, rvA, mkE_cons, mk_nil, mkO_cons, mkO_nil, loadA, SV.tr, SV.trL, nmF, rn_nil, rn_cons1, rn_cons2, plainOb, SV.refsL, SV.refs, Ob.refs, X, F, List.range_succ, mkO, setO_mk]
  | succ j =>
    have h0 : (((j + 1 : Nat) : Int) == 0) = false := beq_eq_false_iff_ne.2 (by omega)
    have hw : IntKind.i64.wrap (((j + 1 : Nat) : Int) - 1) = (j : Int) := by rw [wrap64 (by omega) (by omega)]; omega
    have h1 : (j : Int) ≤ 6 := by omega
    have hlt : j < k := by omega
    refine is.go hm hΓ k_repeated o_repeated (by simp [a_repeated]) ?_
    simp only [a_repeated, h0, hw, h1, hlt, h_repeated, lim, muR, c_repeated, allP_map, brV_cs, brV_cells, Int.natCast_nonneg, Int.toNat_natCast, List.zipIdx_cons, List.zipIdx_nil, ↓SP, SQ, Gam.add, stepM, callC, argC, lendO, nmBy, nmC, likeL, likeB, plainOb, offs, exL, X, F, trP, trO, stepD, stepW, newA, SV.tr, SV.trL, fz, allP, Ob.tr, loadA, cellsA, SV.cells, binA, binI, eqOut, isSl, isPt, natOf, callee, snap, SV.refsL, SV.refs, thaw, fzAll, loA, hiA, elemOf, partsA, buildA, putCells, ↓reduceIte, reduceCtorEq, okCell, Nat.reduceAdd, Nat.reduceEqDiff, Nat.reduceSub, Nat.reduceMul, Nat.reduceLeDiff, Nat.reduceLT, Nat.reduceBEq, PV.scal, PV.scalL, SV.scal, SV.scalL, Ob.scal, PV.isCell, pure', resO]
    refine finA_gen [19] trivial (by simp [retA, rvA, mkE_cons, mk_nil, mkO_cons, mkO_nil, loadA, SV.tr, SV.trL, nmF, rn_nil, rn_cons1, rn_cons2, plainOb, SV.refsL, SV.refs, Ob.refs, X, F, List.range_succ, mkO, setO_mk]; rfl) ?_ ?_ ?_ ?_ ?_ ?_ ?_ <;> simp [rpB, brCs, retA, rvA, mkE_cons, mk_nil, mkO_cons, mkO_nil, loadA, SV.tr, SV.trL, nmF, rn_nil, rn_cons1, rn_cons2, plainOb, SV.refsL, SV.refs, Ob.refs, X, F, List.range_succ, mkO, setO_mk]
theorem s_repeated {P : Program} (hm : P.follows .mixedOrders = true) {Γ : Gam} (hΓ : GS P Γ) {n : FuncId} (is : Is P n (a_repeated n)) (_ : True) : Says P n c_repeated :=
  Says.rec hΓ muR fun k hk args ext r ext' fs h hmu => repeated_walk (k := k) hm hk is (by simp [Gam.addX]) args ext r ext' fs h hmu
def a_RepeatTree (f_isQuestion : FuncId) (f_in : FuncId) (f_repeated : FuncId) (f_tree : FuncId) : AFn := ⟨3, 
  .seq (.reg [⟨some 6, none, .w (.alloc [.nilsl])⟩,
    ⟨some 7, none, .d (.mv (.c (.bool false)))⟩])
  (.seq (.seq (.reg [⟨some 8, none, .d (.mv (.t 0))⟩,
    ⟨some 9, none, .d (.mv (.t 1))⟩,
    ⟨some 10, none, .d (.call (.f f_isQuestion) [(.t 8), (.t 9)])⟩,
    ⟨some 11, none, .d (.not (.t 10))⟩,
    ⟨some 12, none, .d (.mv (.t 11))⟩,
    ⟨some 13, some (12, false), .d (.mv (.t 2))⟩,
    ⟨some 14, some (12, false), .d (.call (.f f_in) [(.t 13), (.c (.int .i64 0)), (.c (.int .i64 6))])⟩,
    ⟨some 15, some (12, false), .d (.not (.t 14))⟩,
    ⟨some 16, none, .d (.pick (.t 12) (.c (.bool true)) (.t 15))⟩])
  (.cond (.t 16) (.seq (.reg [⟨some 17, none, .d (.build [.nilsl] [])⟩,
     ⟨none, none, .w (.store 1 (.t 6) (.t 17))⟩,
     ⟨some 7, none, .d (.mv (.c (.bool false)))⟩])
   (.ret)) (.skip)))
  (.seq (.reg [⟨some 18, none, .d (.mv (.t 1))⟩,
    ⟨some 19, none, .d (.mv (.t 2))⟩,
    ⟨some 20, none, .d (.call (.f f_repeated) [(.t 18), (.t 19)])⟩,
    ⟨some 21, none, .w (.callL (.f f_tree) [(.t 20)] [] 1 false)⟩,
    ⟨none, none, .w (.store 1 (.t 6) (.t 21))⟩,
    ⟨some 7, none, .d (.mv (.c (.bool true)))⟩])
  (.ret))), [.cell 6 1 true, .tmp 7]⟩
def n_RepeatTree : Nat → Option Ann := fun d => if d = 21 then some ⟨[], 1, false⟩ else none
abbrev k_RepeatTree : List Nat := [0, 1, 2, 6, 7, 16]
abbrev o_RepeatTree : List Nat := [6, 21]
def c_RepeatTree : Con := pure' fun
  | [.p (.int .i64 n), .p (.int .i64 q), .p (.int .i64 t)] => if (True) then some (.tp [.ag [if (isQ n q && (decide (0 ≤ t) && decide (t ≤ 6))) = true then .ar 2000000 else .p .nilsl], .p (.bool (isQ n q && (decide (0 ≤ t) && decide (t ≤ 6))))], if (isQ n q && (decide (0 ≤ t) && decide (t ≤ 6))) = true then [.arr 3 (nds (trB (rpB q t.toNat) 0))] else []) else none
  | _ => none
theorem s_RepeatTree {P : Program} (hm : P.follows .mixedOrders = true) {Γ : Gam} (hΓ : GS P Γ) {n : FuncId} {f_isQuestion : FuncId} {f_in : FuncId} {f_repeated : FuncId} {f_tree : FuncId} (is : Is P n (a_RepeatTree f_isQuestion f_in f_repeated f_tree)) (h_isQuestion : Γ f_isQuestion = c_isQuestion) (h_in : Γ f_in = c_in) (h_repeated : Γ f_repeated = c_repeated) (h_tree : Γ f_tree = c_tree)  : Says P n c_RepeatTree := by
  refine Says.pure fun args r fs h => ?_
  split at h
  case h_2 => cases h
  rename_i n q t
  split at h
  case isFalse => cases h
  rename_i hc
  simp only [ofI_ints, ofBo_bools, ofAs_asks, Option.some.injEq, Prod.mk.injEq] at h hc
  obtain ⟨rfl, rfl⟩ := h
  cases h1 : isQ n q with
  | false =>
    refine is.go hm hΓ k_RepeatTree o_RepeatTree (by simp [a_RepeatTree]) ?_
    simp only [a_RepeatTree, h_isQuestion, c_isQuestion, h_in, c_in, h_repeated, c_repeated, h_tree, c_tree, h1, Bool.false_and, Bool.false_eq_true, List.zipIdx_cons, List.zipIdx_nil, ↓SP, SQ, Gam.add, stepM, callC, argC, lendO, nmBy, nmC, likeL, likeB, plainOb, offs, exL, X, F, trP, trO, stepD, stepW, newA, SV.tr, SV.trL, fz, allP, Ob.tr, loadA, cellsA, SV.cells, binA, binI, eqOut, isSl, isPt, natOf, callee, snap, SV.refsL, SV.refs, thaw, fzAll, loA, hiA, elemOf, partsA, buildA, putCells, ↓reduceIte, reduceCtorEq, okCell, Nat.reduceAdd, Nat.reduceEqDiff, Nat.reduceSub, Nat.reduceMul, Nat.reduceLeDiff, Nat.reduceLT, Nat.reduceBEq, PV.scal, PV.scalL, SV.scal, SV.scalL, Ob.scal, PV.isCell, pure', resO]
    refine finA_gen [] trivial (by simp [retA, rvA, mkE_cons, mk_nil, mkO_cons, mkO_nil, loadA, SV.tr, SV.trL, nmF, rn_nil, rn_cons1, rn_cons2, plainOb, SV.refsL, SV.refs, Ob.refs, X, F, List.range_succ, mkO, setO_mk]; rfl) ?_ ?_ ?_ ?_ ?_ ?_ ?_ <;> simp [retA, rvA, mkE_cons, mk_nil, mkO_cons, mkO_nil, loadA, SV.tr, SV.trL, nmF, rn_nil, rn_cons1, rn_cons2, plainOb, SV.refsL, SV.refs, Ob.refs, X, F, List.range_succ, mkO, setO_mk]
  | true =>
    cases h2 : (decide (0 ≤ t) && decide (t ≤ 6)) with
    | false =>
      refine is.go hm hΓ k_RepeatTree o_RepeatTree (by simp [a_RepeatTree]) ?_
      simp only [a_RepeatTree, h_isQuestion, c_isQuestion, h_in, c_in, h_repeated, c_repeated, h_tree, c_tree, h1, h2, Bool.and_false, Bool.false_eq_true, List.zipIdx_cons, List.zipIdx_nil, ↓SP, SQ, Gam.add, stepM, callC, argC, lendO, nmBy, nmC, likeL, likeB, plainOb, offs, exL, X, F, trP, trO, stepD, stepW, newA, SV.tr, SV.trL, fz, allP, Ob.tr, loadA, cellsA, SV.cells, binA, binI, eqOut, isSl, isPt, natOf, callee, snap, SV.refsL, SV.refs, thaw, fzAll, loA, hiA, elemOf, partsA, buildA, putCells, ↓reduceIte, reduceCtorEq, okCell, Nat.reduceAdd, Nat.reduceEqDiff, Nat.reduceSub, Nat.reduceMul, Nat.reduceLeDiff, Nat.reduceLT, Nat.reduceBEq, PV.scal, PV.scalL, SV.scal, SV.scalL, Ob.scal, PV.isCell, pure', resO]
      refine finA_gen [] trivial (by simp [retA, rvA, mkE_cons, mk_nil, mkO_cons, mkO_nil, loadA, SV.tr, SV.trL, nmF, rn_nil, rn_cons1, rn_cons2, plainOb, SV.refsL, SV.refs, Ob.refs, X, F, List.range_succ, mkO, setO_mk]; rfl) ?_ ?_ ?_ ?_ ?_ ?_ ?_ <;> simp [retA, rvA, mkE_cons, mk_nil, mkO_cons, mkO_nil, loadA, SV.tr, SV.trL, nmF, rn_nil, rn_cons1, rn_cons2, plainOb, SV.refsL, SV.refs, Ob.refs, X, F, List.range_succ, mkO, setO_mk]
    | true =>
      have ht : 0 ≤ t ∧ t ≤ 6 := by simpa using h2
      have hN := rpB_N q t.toNat
      have hp : 2 ^ (t.toNat + 1) ≤ 2 ^ 7 := Nat.pow_le_pow_right (by omega) (by omega)
      have hr := tree_eq (rpB q t.toNat) (by omega)
      simp only [Bool.and_self, if_true]
      refine is.go hm hΓ k_RepeatTree o_RepeatTree (by simp [a_RepeatTree]) ?_
      simp only [a_RepeatTree, h_isQuestion, c_isQuestion, h_in, c_in, h_repeated, c_repeated, h_tree, hr, h1, h2, ht, allP_map, brV_cs, List.zipIdx_cons, List.zipIdx_nil, ↓SP, SQ, Gam.add, stepM, callC, argC, lendO, nmBy, nmC, likeL, likeB, plainOb, offs, exL, X, F, trP, trO, stepD, stepW, newA, SV.tr, SV.trL, fz, allP, Ob.tr, loadA, cellsA, SV.cells, binA, binI, eqOut, isSl, isPt, natOf, callee, snap, SV.refsL, SV.refs, thaw, fzAll, loA, hiA, elemOf, partsA, buildA, putCells, ↓reduceIte, reduceCtorEq, okCell, Nat.reduceAdd, Nat.reduceEqDiff, Nat.reduceSub, Nat.reduceMul, Nat.reduceLeDiff, Nat.reduceLT, Nat.reduceBEq, PV.scal, PV.scalL, SV.scal, SV.scalL, Ob.scal, PV.isCell, pure', resO]
      refine finA_gen [21] trivial (by simp [retA, rvA, mkE_cons, mk_nil, mkO_cons, mkO_nil, loadA, SV.tr, SV.trL, nmF, rn_nil, rn_cons1, rn_cons2, plainOb, SV.refsL, SV.refs, Ob.refs, X, F, List.range_succ, mkO, setO_mk]; rfl) ?_ ?_ ?_ ?_ ?_ ?_ ?_ <;> simp [retA, rvA, mkE_cons, mk_nil, mkO_cons, mkO_nil, loadA, SV.tr, SV.trL, nmF, rn_nil, rn_cons1, rn_cons2, plainOb, SV.refsL, SV.refs, Ob.refs, X, F, List.range_succ, mkO, setO_mk]
def a_l9Leaf : AFn := ⟨0, 
  .seq (.reg [⟨some 0, none, .w (.alloc [.int .i64 0, .int .i64 0, .int .i64 0])⟩])
  (.seq (.reg [⟨some 1, none, .d (.build [.int .i64 0, .int .i64 0, .int .i64 0] [(0, 1, (.c (.int .i64 (-1)))), (1, 1, (.c (.int .i64 (-1)))), (2, 1, (.c (.int .i64 (-1))))])⟩,
    ⟨none, none, .w (.store 3 (.t 0) (.t 1))⟩])
  (.ret)), [.cell 0 3 true]⟩
def n_l9Leaf : Nat → Option Ann := fun _ => none
abbrev k_l9Leaf : List Nat := [0]
abbrev o_l9Leaf : List Nat := [0]
def c_l9Leaf : Con := pure' fun
  | [] => some (.ag [.p (.int .i64 (-1)), .p (.int .i64 (-1)), .p (.int .i64 (-1))], [])
  | _ => none
theorem s_l9Leaf {P : Program} (hm : P.follows .mixedOrders = true) {Γ : Gam} (hΓ : GS P Γ) {n : FuncId} (is : Is P n a_l9Leaf)  : Says P n c_l9Leaf := by
  refine Says.pure fun args r fs h => ?_
  split at h
  case h_2 => cases h
  simp only [Option.some.injEq, Prod.mk.injEq] at h
  obtain ⟨rfl, rfl⟩ := h
  refine is.go hm hΓ k_l9Leaf o_l9Leaf (by simp [a_l9Leaf]) ?_
  simp only [a_l9Leaf, List.zipIdx_cons, List.zipIdx_nil, ↓SP, SQ, Gam.add, stepM, callC, argC, lendO, nmBy, nmC, likeL, likeB, plainOb, offs, exL, X, F, trP, trO, stepD, stepW, newA, SV.tr, SV.trL, fz, allP, Ob.tr, loadA, cellsA, SV.cells, binA, binI, eqOut, isSl, isPt, natOf, callee, snap, SV.refsL, SV.refs, thaw, fzAll, loA, hiA, elemOf, partsA, buildA, putCells, ↓reduceIte, reduceCtorEq, okCell, Nat.reduceAdd, Nat.reduceEqDiff, Nat.reduceSub, Nat.reduceMul, Nat.reduceLeDiff, Nat.reduceLT, Nat.reduceBEq, PV.scal, PV.scalL, SV.scal, SV.scalL, Ob.scal, PV.isCell, pure', resO]
  exact finA_val (by simp [retA, rvA, mkE_cons, mk_nil, mkO_cons, mkO_nil, loadA, SV.tr, SV.trL, nmF, rn_nil, rn_cons1, rn_cons2, plainOb, SV.refsL, SV.refs, Ob.refs, X, F, List.range_succ, mkO, setO_mk]) (by simp [SV.tr, SV.trL])
def a_l9Moved : AFn := ⟨2, 
  .seq (.reg [⟨some 4, none, .d (.mv (.c (.nilsl)))⟩])
  (.seq (.reg [⟨some 8, none, .w (.bslice 3 [] [])⟩,
    ⟨some 5, none, .d (.mv (.t 8))⟩])
  (.seq (.seq (.reg [⟨some 6, none, .d (.mv (.c (.int .i64 0)))⟩])
  (.block 0 (.loop (.seq (.seq (.reg [⟨some 9, none, .d (.mv (.t 6))⟩,
      ⟨some 10, none, .d (.mv (.t 0))⟩,
      ⟨some 11, none, .d (.len (.t 10))⟩,
      ⟨some 12, none, .d (.bin .arith .lss (.t 9) (.t 11))⟩])
    (.cond (.t 12) (.skip) (.exit 0)))
    (.seq (.block 1 (.seq (.reg [⟨some 15, none, .d (.mv (.t 0))⟩,
       ⟨some 16, none, .d (.mv (.t 6))⟩,
       ⟨some 17, none, .d (.ia 3 (.t 15) (.t 16))⟩,
       ⟨some 18, none, .d (.load true 3 (.t 17))⟩,
       ⟨some 7, none, .w (.alloc [.int .i64 0, .int .i64 0, .int .i64 0])⟩,
       ⟨none, none, .w (.store 3 (.t 7) (.t 18))⟩])
     (.seq (.seq (.reg [⟨some 19, none, .d (.fa 1 (.t 7))⟩,
       ⟨some 20, none, .d (.load false 1 (.t 19))⟩,
       ⟨some 21, none, .d (.bin .arith .geq (.t 20) (.c (.int .i64 0)))⟩])
     (.cond (.t 21) (.seq (.reg [⟨some 22, none, .d (.fa 1 (.t 7))⟩,
        ⟨some 23, none, .d (.load false 1 (.t 22))⟩,
        ⟨some 24, none, .d (.mv (.t 1))⟩,
        ⟨some 25, none, .d (.bin .arith .add (.t 23) (.t 24))⟩,
        ⟨some 26, none, .d (.fa 1 (.t 7))⟩,
        ⟨none, none, .w (.store 1 (.t 26) (.t 25))⟩])
      (.reg [⟨some 27, none, .d (.fa 2 (.t 7))⟩,
        ⟨some 28, none, .d (.load false 1 (.t 27))⟩,
        ⟨some 29, none, .d (.mv (.t 1))⟩,
        ⟨some 30, none, .d (.bin .arith .add (.t 28) (.t 29))⟩,
        ⟨some 31, none, .d (.fa 2 (.t 7))⟩,
        ⟨none, none, .w (.store 1 (.t 31) (.t 30))⟩])) (.skip)))
     (.reg [⟨some 32, none, .d (.mv (.t 5))⟩,
       ⟨some 33, none, .d (.load true 3 (.t 7))⟩,
       ⟨some 34, none, .w (.bslice 3 [.agg [.int .i64 0, .int .i64 0, .int .i64 0]] [(0, (.t 33))])⟩,
       ⟨some 35, none, .w (.append 3 (.t 32) (.t 34))⟩,
       ⟨some 5, none, .d (.mv (.t 35))⟩]))))
    (.reg [⟨some 13, none, .d (.mv (.t 6))⟩,
      ⟨some 14, none, .d (.bin .arith .add (.t 13) (.c (.int .i64 1)))⟩,
      ⟨some 6, none, .d (.mv (.t 14))⟩]))))))
  (.seq (.reg [⟨some 36, none, .d (.mv (.t 5))⟩,
    ⟨some 4, none, .d (.mv (.t 36))⟩])
  (.ret)))), [.tmp 4]⟩
def n_l9Moved : Nat → Option Ann := fun _ => none
abbrev k_l9Moved : List Nat := [0, 1, 4, 5, 6, 7, 12, 21]
abbrev o_l9Moved : List Nat := [7, 8, 34, 35]
def mv1 (d : Int) (x : Nd) : Nd := if x.2.1 ≥ 0 then (x.1, x.2.1 + d, x.2.2 + d) else x
def mvN (l : List Nd) (d : Int) : List Nd := l.map (mv1 d)
def bdN (l : List Nd) : Bool := l.all fun x => decide (-5000 ≤ x.2.1) && decide (x.2.1 ≤ 5000) && (decide (-5000 ≤ x.2.2) && decide (x.2.2 ≤ 5000))
theorem bdN_get {l : List Nd} (h : bdN l = true) {i : Nat} (hi : i < l.length) : (-5000 ≤ (l.getD i (0, 0, 0)).2.1 ∧ (l.getD i (0, 0, 0)).2.1 ≤ 5000) ∧ -5000 ≤ (l.getD i (0, 0, 0)).2.2 ∧ (l.getD i (0, 0, 0)).2.2 ≤ 5000 := by
  have := List.all_eq_true.1 h (l.getD i (0, 0, 0)) (by rw [show l.getD i (0, 0, 0) = l[i] by simp [hi]]; exact List.getElem_mem _)
  simpa [Bool.and_eq_true] using this
def c_l9Moved : Con := pure' fun
  | [.p (.sl 3 xs), .p (.int .i64 d)] => if isNs xs = true ∧ xs.length ≤ 2000 ∧ 0 ≤ d ∧ d ≤ 5000 ∧ bdN (ofNs xs) = true then some (.ar 2000000, [.arr 3 (nds (mvN (ofNs xs) d))]) else none
  | _ => none
theorem s_l9Moved {P : Program} (hm : P.follows .mixedOrders = true) {Γ : Gam} (hΓ : GS P Γ) {n : FuncId} (is : Is P n a_l9Moved)  : Says P n c_l9Moved := by
  refine Says.pure fun args r fs h => ?_
  split at h
  case h_2 => cases h
  rename_i xs d
  split at h
  case isFalse => cases h
  rename_i hc
  obtain ⟨hx, hl, hd0, hd1, hb⟩ := hc
  obtain ⟨l, rfl⟩ := isNs_out hx
  rw [nds_len] at hl
  simp only [ofNs_nds] at hb h
  simp only [Option.some.injEq, Prod.mk.injEq] at h
  obtain ⟨rfl, rfl⟩ := h
  refine is.go hm hΓ k_l9Moved o_l9Moved (by simp [a_l9Moved]) ?_
  simp only [a_l9Moved, nds_len, List.zipIdx_cons, List.zipIdx_nil, ↓SP, SQ, Gam.add, stepM, callC, argC, lendO, nmBy, nmC, likeL, likeB, plainOb, offs, exL, X, F, trP, trO, stepD, stepW, newA, SV.tr, SV.trL, fz, allP, Ob.tr, loadA, cellsA, SV.cells, binA, binI, eqOut, isSl, isPt, natOf, callee, snap, SV.refsL, SV.refs, thaw, fzAll, loA, hiA, elemOf, partsA, buildA, putCells, ↓reduceIte, reduceCtorEq, okCell, Nat.reduceAdd, Nat.reduceEqDiff, Nat.reduceSub, Nat.reduceMul, Nat.reduceLeDiff, Nat.reduceLT, Nat.reduceBEq, PV.scal, PV.scalL, SV.scal, SV.scalL, Ob.scal, PV.isCell, pure', resO]
  refine loop_at (fun st : Nat × SV × SV × SV × Option Ob × Option Ob => mkEnv [(0, .p (.sl 3 (nds l))), (1, si d), (4, .p .nilsl), (5, .ar 8), (6, si st.1), (7, st.2.1), (12, st.2.2.1), (21, st.2.2.2.1)]) (fun st => mkO [(7, st.2.2.2.2.1), (8, some (.arr 3 (nds (mvN (l.take st.1) d)))), (34, st.2.2.2.2.2), (35, none)]) (fun st => st.1 ≤ l.length) (fun st => l.length - st.1) (0, .junk, .junk, .junk, none, none) (by simp) rfl rfl ?_
  rintro ⟨i, c1, c2, c3, o1, o2⟩ hi R hR hN
  simp only at hi
  by_cases h : i < l.length
  · have hlt : (i : Int) < l.length := by omega
    have hg := nds_get h
    have hw := wrap_one (i := i) (by omega)
    obtain ⟨⟨b1, b2⟩, b3, b4⟩ := bdN_get hb h
    have htk : mvN (l.take (i + 1)) d = mvN (l.take i) d ++ [mv1 d (l.getD i (0, 0, 0))] := by
      rw [take_one l i (0, 0, 0) h]; simp [mvN]
    have hln : (mvN (l.take i) d).length + 1 ≤ roomA := by
      have : (mvN (l.take i) d).length ≤ l.length := by simp [mvN]; omega
      exact Nat.le_trans (by omega) (by decide : 3000 ≤ roomA)
    generalize l.getD i (0, 0, 0) = x at *
    obtain ⟨xq, xy, xn⟩ := x
    simp only at b1 b2 b3 b4 hg
    by_cases hy : xy ≥ 0
    · have w1 : IntKind.i64.wrap (xy + d) = xy + d := wrap64 (by omega) (by omega)
      have w2 : IntKind.i64.wrap (xn + d) = xn + d := wrap64 (by omega) (by omega)
      have hm1 : mv1 d (xq, xy, xn) = (xq, xy + d, xn + d) := by simp [mv1, hy]
      rw [hm1] at htk
      simp only [nds_len, hlt, hg, h, hw, w1, w2, hy, hln, nds_app1, nds_cell, ↓SP, SQ, Gam.add, stepM, callC, argC, lendO, nmBy, nmC, likeL, likeB, plainOb, offs, exL, X, F, trP, trO, stepD, stepW, newA, SV.tr, SV.trL, fz, allP, Ob.tr, loadA, cellsA, SV.cells, binA, binI, eqOut, isSl, isPt, natOf, callee, snap, SV.refsL, SV.refs, thaw, fzAll, loA, hiA, elemOf, partsA, buildA, putCells, ↓reduceIte, reduceCtorEq, okCell, Nat.reduceAdd, Nat.reduceEqDiff, Nat.reduceSub, Nat.reduceMul, Nat.reduceLeDiff, Nat.reduceLT, Nat.reduceBEq, PV.scal, PV.scalL, SV.scal, SV.scalL, Ob.scal, PV.isCell, pure', resO]
      exact hN (i + 1, _, _, _, _, _) _ _ (by simp only; omega) (by simp only; omega) rfl (by simp only [htk]; rfl)
    · have hm1 : mv1 d (xq, xy, xn) = (xq, xy, xn) := by simp [mv1, hy]
      rw [hm1] at htk
      simp only [nds_len, hlt, hg, h, hw, hy, hln, nds_app1, nds_cell, ↓SP, SQ, Gam.add, stepM, callC, argC, lendO, nmBy, nmC, likeL, likeB, plainOb, offs, exL, X, F, trP, trO, stepD, stepW, newA, SV.tr, SV.trL, fz, allP, Ob.tr, loadA, cellsA, SV.cells, binA, binI, eqOut, isSl, isPt, natOf, callee, snap, SV.refsL, SV.refs, thaw, fzAll, loA, hiA, elemOf, partsA, buildA, putCells, ↓reduceIte, reduceCtorEq, okCell, Nat.reduceAdd, Nat.reduceEqDiff, Nat.reduceSub, Nat.reduceMul, Nat.reduceLeDiff, Nat.reduceLT, Nat.reduceBEq, PV.scal, PV.scalL, SV.scal, SV.scalL, Ob.scal, PV.isCell, pure', resO]
      exact hN (i + 1, _, _, _, _, _) _ _ (by simp only; omega) (by simp only; omega) rfl (by simp only [htk]; rfl)
  · have he : i = l.length := by omega
    subst he
    have hlt : ¬ (l.length : Int) < l.length := by omega
    simp only [nds_len, hlt, List.take_length, ↓SP, SQ, Gam.add, stepM, callC, argC, lendO, nmBy, nmC, likeL, likeB, plainOb, offs, exL, X, F, trP, trO, stepD, stepW, newA, SV.tr, SV.trL, fz, allP, Ob.tr, loadA, cellsA, SV.cells, binA, binI, eqOut, isSl, isPt, natOf, callee, snap, SV.refsL, SV.refs, thaw, fzAll, loA, hiA, elemOf, partsA, buildA, putCells, ↓reduceIte, reduceCtorEq, okCell, Nat.reduceAdd, Nat.reduceEqDiff, Nat.reduceSub, Nat.reduceMul, Nat.reduceLeDiff, Nat.reduceLT, Nat.reduceBEq, PV.scal, PV.scalL, SV.scal, SV.scalL, Ob.scal, PV.isCell, pure', resO]
    refine hR _ _ _ (by intro h; cases h) ?_
    simp only [↓SP, SQ, Gam.add, stepM, callC, argC, lendO, nmBy, nmC, likeL, likeB, plainOb, offs, exL, X, F, trP, trO, stepD, stepW, newA, SV.tr, SV.trL, fz, allP, Ob.tr, loadA, cellsA, SV.cells, binA, binI, eqOut, isSl, isPt, natOf, callee, snap, SV.refsL, SV.refs, thaw, fzAll, loA, hiA, elemOf, partsA, buildA, putCells, ↓reduceIte, reduceCtorEq, okCell, Nat.reduceAdd, Nat.reduceEqDiff, Nat.reduceSub, Nat.reduceMul, Nat.reduceLeDiff, Nat.reduceLT, Nat.reduceBEq, PV.scal, PV.scalL, SV.scal, SV.scalL, Ob.scal, PV.isCell, pure', resO]
    refine finA_gen [8] trivial (by simp [retA, rvA, mkE_cons, mk_nil, mkO_cons, mkO_nil, loadA, SV.tr, SV.trL, nmF, rn_nil, rn_cons1, rn_cons2, plainOb, SV.refsL, SV.refs, Ob.refs, X, F, List.range_succ, mkO, setO_mk]; rfl) ?_ ?_ ?_ ?_ ?_ ?_ ?_ <;> simp [retA, rvA, mkE_cons, mk_nil, mkO_cons, mkO_nil, loadA, SV.tr, SV.trL, nmF, rn_nil, rn_cons1, rn_cons2, plainOb, SV.refsL, SV.refs, Ob.refs, X, F, List.range_succ, mkO, setO_mk]
theorem mvN_len (l : List Nd) (d : Int) : (mvN l d).length = l.length := by simp [mvN]
theorem mv_tr (d : Int) : ∀ (t : Br) (a : Int), 0 ≤ a → mvN (trB t a) d = trB t (a + d)
  | .lf, a, _ => by simp [trB, mvN, mv1]
  | .nd q y n, a, ha => by
    have h1 := mv_tr d y (a + 1) (by omega)
    have h2 := mv_tr d n (a + 1 + brN y) (by omega)
    simp only [mvN] at h1 h2
    simp only [trB, mvN, List.map_cons, List.map_append, h1, h2]
    have h3 : mv1 d (q, a + 1, a + 1 + brN y) = (q, a + d + 1, a + d + 1 + brN y) := by
      simp only [mv1, if_pos (show a + 1 ≥ 0 by omega)]
      simp only [Prod.mk.injEq, true_and]; omega
    rw [h3, show a + 1 + d = a + d + 1 by omega, show a + 1 + (brN y : Int) + d = a + d + 1 + brN y by omega]
theorem trB_bd : ∀ (t : Br) (a : Int), 0 ≤ a → a + brN t ≤ 5000 → bdN (trB t a) = true
  | .lf, a, _, _ => by simp [trB, bdN]
  | .nd q y n, a, ha, hb => by
    simp only [brN, Int.natCast_add, Int.natCast_one] at hb
    have p1 := brN_pos y
    have p2 := brN_pos n
    have h1 := trB_bd y (a + 1) (by omega) (by omega)
    have h2 := trB_bd n (a + 1 + brN y) (by omega) (by omega)
    simp only [bdN] at h1 h2 ⊢
    simp only [trB, List.all_cons, List.all_append, h1, h2, Bool.and_true]
    simp only [Bool.and_eq_true, decide_eq_true_eq]; omega
def a_l9Join (f_l9Moved : FuncId) : AFn := ⟨3, 
  .seq (.reg [⟨some 6, none, .d (.mv (.c (.nilsl)))⟩])
  (.seq (.reg [⟨some 8, none, .d (.mv (.t 0))⟩,
    ⟨some 9, none, .d (.mv (.t 1))⟩,
    ⟨some 10, none, .d (.len (.t 9))⟩,
    ⟨some 11, none, .d (.bin .arith .add (.c (.int .i64 1)) (.t 10))⟩,
    ⟨some 12, none, .d (.build [.int .i64 0, .int .i64 0, .int .i64 0] [(0, 1, (.t 8)), (1, 1, (.c (.int .i64 1))), (2, 1, (.t 11))])⟩,
    ⟨some 13, none, .w (.bslice 3 [.agg [.int .i64 0, .int .i64 0, .int .i64 0]] [(0, (.t 12))])⟩,
    ⟨some 7, none, .d (.mv (.t 13))⟩])
  (.seq (.reg [⟨some 14, none, .d (.mv (.t 7))⟩,
    ⟨some 15, none, .d (.mv (.t 1))⟩,
    ⟨some 16, none, .d (.call (.f f_l9Moved) [(.t 15), (.c (.int .i64 1))])⟩,
    ⟨some 17, none, .w (.append 3 (.t 14) (.t 16))⟩,
    ⟨some 7, none, .d (.mv (.t 17))⟩])
  (.seq (.reg [⟨some 18, none, .d (.mv (.t 7))⟩,
    ⟨some 19, none, .d (.mv (.t 2))⟩,
    ⟨some 20, none, .d (.mv (.t 1))⟩,
    ⟨some 21, none, .d (.len (.t 20))⟩,
    ⟨some 22, none, .d (.bin .arith .add (.c (.int .i64 1)) (.t 21))⟩,
    ⟨some 23, none, .d (.call (.f f_l9Moved) [(.t 19), (.t 22)])⟩,
    ⟨some 24, none, .w (.append 3 (.t 18) (.t 23))⟩,
    ⟨some 6, none, .d (.mv (.t 24))⟩])
  (.ret)))), [.tmp 6]⟩
def n_l9Join : Nat → Option Ann := fun _ => none
abbrev k_l9Join : List Nat := [0, 1, 2, 6, 7]
abbrev o_l9Join : List Nat := [13, 17, 24]
def jnN (q : Int) (l m : List Nd) : List Nd := (q, 1, 1 + (l.length : Int)) :: (mvN l 1 ++ mvN m (1 + l.length))
theorem jn_tr (q : Int) (y n : Br) : jnN q (trB y 0) (trB n 0) = trB (.nd q y n) 0 := by
  simp only [jnN, trB, trB_len]
  rw [mv_tr 1 y 0 (Int.le_refl _), mv_tr (1 + brN y) n 0 (Int.le_refl _)]
  simp only [Int.zero_add]
def c_l9Join : Con := pure' fun
  | [.p (.int .i64 q), .p (.sl 3 xs), .p (.sl 3 ys)] => if isNs xs = true ∧ isNs ys = true ∧ xs.length ≤ 1000 ∧ ys.length ≤ 1000 ∧ bdN (ofNs xs) = true ∧ bdN (ofNs ys) = true then some (.ar 2000000, [.arr 3 (nds (jnN q (ofNs xs) (ofNs ys)))]) else none
  | _ => none
theorem s_l9Join {P : Program} (hm : P.follows .mixedOrders = true) {Γ : Gam} (hΓ : GS P Γ) {n : FuncId} {f_l9Moved : FuncId} (is : Is P n (a_l9Join f_l9Moved)) (h_l9Moved : Γ f_l9Moved = c_l9Moved)  : Says P n c_l9Join := by
  refine Says.pure fun args r fs h => ?_
  split at h
  case h_2 => cases h
  rename_i q xs ys
  split at h
  case isFalse => cases h
  rename_i hc
  obtain ⟨hx, hy, l1, l2, b1, b2⟩ := hc
  obtain ⟨l, rfl⟩ := isNs_out hx
  obtain ⟨m, rfl⟩ := isNs_out hy
  rw [nds_len] at l1 l2
  simp only [ofNs_nds] at b1 b2 h
  simp only [Option.some.injEq, Prod.mk.injEq] at h
  obtain ⟨rfl, rfl⟩ := h
  have hw : IntKind.i64.wrap (1 + (l.length : Int)) = 1 + (l.length : Int) := wrap64 (by omega) (by omega)
  have q1 : l.length ≤ 2000 := by omega
  have q2 : m.length ≤ 2000 := by omega
  have q3 : (0 : Int) ≤ 1 + (l.length : Int) := by omega
  have q4 : 1 + (l.length : Int) ≤ 5000 := by omega
  have q5 : (1 : Int) ≤ 5000 := by decide
  have q6 : (0 : Int) ≤ 1 := by decide
  have e1 : [PV.agg [.int .i64 q, .int .i64 1, .int .i64 (1 + (l.length : Int))]] = nds [(q, 1, 1 + (l.length : Int))] := rfl
  have r1 : 1 + (mvN l 1).length ≤ roomA := by rw [mvN_len]; exact Nat.le_trans (by omega) (by decide : 3000 ≤ roomA)
  have r2 : 1 + (mvN l 1).length + (mvN m (1 + (l.length : Int))).length ≤ roomA := by rw [mvN_len, mvN_len]; exact Nat.le_trans (by omega) (by decide : 3000 ≤ roomA)
  have ha1 : nds [(q, 1, 1 + (l.length : Int))] ++ nds (mvN l 1) = nds ((q, 1, 1 + (l.length : Int)) :: mvN l 1) := nds_app _ _
  have ha2 : nds ((q, 1, 1 + (l.length : Int)) :: mvN l 1) ++ nds (mvN m (1 + (l.length : Int))) = nds (jnN q l m) := by rw [nds_app]; rfl
  have r3 : (mvN l 1).length + 1 + (mvN m (1 + (l.length : Int))).length ≤ roomA := by omega
  refine is.go hm hΓ k_l9Join o_l9Join (by simp [a_l9Join]) ?_
  simp only [a_l9Join, h_l9Moved, c_l9Moved, hw, q1, q2, q3, q4, q5, q6, e1, r1, r2, r3, ha1, ha2, b1, b2, hx, hy, nds_len, ofNs_nds, isNs_nds, nds_cell, List.length_cons, List.length_nil, Nat.zero_add, List.zipIdx_cons, List.zipIdx_nil, ↓SP, SQ, Gam.add, stepM, callC, argC, lendO, nmBy, nmC, likeL, likeB, plainOb, offs, exL, X, F, trP, trO, stepD, stepW, newA, SV.tr, SV.trL, fz, allP, Ob.tr, loadA, cellsA, SV.cells, binA, binI, eqOut, isSl, isPt, natOf, callee, snap, SV.refsL, SV.refs, thaw, fzAll, loA, hiA, elemOf, partsA, buildA, putCells, ↓reduceIte, reduceCtorEq, okCell, Nat.reduceAdd, Nat.reduceEqDiff, Nat.reduceSub, Nat.reduceMul, Nat.reduceLeDiff, Nat.reduceLT, Nat.reduceBEq, PV.scal, PV.scalL, SV.scal, SV.scalL, Ob.scal, PV.isCell, pure', resO]
  refine finA_gen [13] trivial (by simp [retA, rvA, mkE_cons, mk_nil, mkO_cons, mkO_nil, loadA, SV.tr, SV.trL, nmF, rn_nil, rn_cons1, rn_cons2, plainOb, SV.refsL, SV.refs, Ob.refs, X, F, List.range_succ, mkO, setO_mk]; rfl) ?_ ?_ ?_ ?_ ?_ ?_ ?_ <;> simp [retA, rvA, mkE_cons, mk_nil, mkO_cons, mkO_nil, loadA, SV.tr, SV.trL, nmF, rn_nil, rn_cons1, rn_cons2, plainOb, SV.refsL, SV.refs, Ob.refs, X, F, List.range_succ, mkO, setO_mk]
def a_s_RepeatTree (f_l2Asks : FuncId) (f_l1In : FuncId) (f_l9Leaf : FuncId) (f_l9Join : FuncId) : AFn := ⟨3, 
  .seq (.reg [⟨some 6, none, .w (.alloc [.nilsl])⟩,
    ⟨some 7, none, .d (.mv (.c (.bool false)))⟩])
  (.seq (.seq (.reg [⟨some 10, none, .d (.mv (.t 0))⟩,
    ⟨some 11, none, .d (.mv (.t 1))⟩,
    ⟨some 12, none, .d (.call (.f f_l2Asks) [(.t 10), (.t 11)])⟩,
    ⟨some 13, none, .d (.not (.t 12))⟩,
    ⟨some 14, none, .d (.mv (.t 13))⟩,
    ⟨some 15, some (14, false), .d (.mv (.t 2))⟩,
    ⟨some 16, some (14, false), .d (.call (.f f_l1In) [(.t 15), (.c (.int .i64 0)), (.c (.int .i64 6))])⟩,
    ⟨some 17, some (14, false), .d (.not (.t 16))⟩,
    ⟨some 18, none, .d (.pick (.t 14) (.c (.bool true)) (.t 17))⟩])
  (.cond (.t 18) (.seq (.reg [⟨some 19, none, .d (.build [.nilsl] [])⟩,
     ⟨none, none, .w (.store 1 (.t 6) (.t 19))⟩,
     ⟨some 7, none, .d (.mv (.c (.bool false)))⟩])
   (.ret)) (.skip)))
  (.seq (.reg [⟨some 20, none, .d (.call (.f f_l9Leaf) [])⟩,
    ⟨some 21, none, .w (.bslice 3 [.agg [.int .i64 0, .int .i64 0, .int .i64 0]] [(0, (.t 20))])⟩,
    ⟨some 8, none, .d (.mv (.t 21))⟩])
  (.seq (.seq (.reg [⟨some 9, none, .d (.mv (.c (.int .i64 0)))⟩])
  (.block 0 (.loop (.seq (.seq (.reg [⟨some 22, none, .d (.mv (.t 9))⟩,
      ⟨some 23, none, .d (.mv (.t 2))⟩,
      ⟨some 24, none, .d (.bin .arith .lss (.t 22) (.t 23))⟩])
    (.cond (.t 24) (.skip) (.exit 0)))
    (.seq (.block 1 (.reg [⟨some 27, none, .d (.mv (.t 1))⟩,
       ⟨some 28, none, .d (.mv (.t 8))⟩,
       ⟨some 29, none, .d (.mv (.t 8))⟩,
       ⟨some 30, none, .w (.callL (.f f_l9Join) [(.t 27), (.t 28), (.t 29)] [] 1 true)⟩,
       ⟨some 8, none, .d (.mv (.t 30))⟩]))
    (.reg [⟨some 25, none, .d (.mv (.t 9))⟩,
      ⟨some 26, none, .d (.bin .arith .add (.t 25) (.c (.int .i64 1)))⟩,
      ⟨some 9, none, .d (.mv (.t 26))⟩]))))))
  (.seq (.reg [⟨some 31, none, .d (.mv (.t 8))⟩,
    ⟨some 32, none, .d (.build [.nilsl] [(0, 1, (.t 31))])⟩,
    ⟨none, none, .w (.store 1 (.t 6) (.t 32))⟩,
    ⟨some 7, none, .d (.mv (.c (.bool true)))⟩])
  (.ret))))), [.cell 6 1 true, .tmp 7]⟩
def n_s_RepeatTree : Nat → Option Ann := fun d => if d = 30 then some ⟨[], 1, true⟩ else none
abbrev k_s_RepeatTree : List Nat := [0, 1, 2, 6, 7, 8, 9, 18, 24]
abbrev o_s_RepeatTree : List Nat := [6, 21, 30]
def okR (n q t : Int) : Bool := isQ n q && (decide (0 ≤ t) && decide (t ≤ 6))
def c_s_RepeatTree : Con := pure' fun
  | [.p (.int .i64 n), .p (.int .i64 q), .p (.int .i64 t)] => if (True) then some (.tp [.ag [if okR n q t = true then .ar 2000000 else .p .nilsl], .p (.bool (okR n q t))], if okR n q t = true then [.arr 3 (nds (trB (rpB q t.toNat) 0))] else []) else none
  | _ => none
theorem s_s_RepeatTree {P : Program} (hm : P.follows .mixedOrders = true) {Γ : Gam} (hΓ : GS P Γ) {n : FuncId} {f_l2Asks : FuncId} {f_l1In : FuncId} {f_l9Leaf : FuncId} {f_l9Join : FuncId} (is : Is P n (a_s_RepeatTree f_l2Asks f_l1In f_l9Leaf f_l9Join)) (h_l2Asks : Γ f_l2Asks = c_isQuestion) (h_l1In : Γ f_l1In = c_in) (h_l9Leaf : Γ f_l9Leaf = c_l9Leaf) (h_l9Join : Γ f_l9Join = c_l9Join)  : Says P n c_s_RepeatTree := by
  refine Says.pure fun args r fs h => ?_
  split at h
  case h_2 => cases h
  rename_i n q t
  split at h
  case isFalse => cases h
  rename_i hc
  simp only [ofI_ints, ofBo_bools, ofAs_asks, Option.some.injEq, Prod.mk.injEq] at h hc
  obtain ⟨rfl, rfl⟩ := h
  cases h1 : isQ n q with
  | false =>
    have hok : okR n q t = false := by simp only [okR, h1, Bool.false_and]
    refine is.go hm hΓ k_s_RepeatTree o_s_RepeatTree (by simp [a_s_RepeatTree]) ?_
    simp only [a_s_RepeatTree, h_l2Asks, c_isQuestion, h_l1In, c_in, h_l9Leaf, c_l9Leaf, h_l9Join, c_l9Join, h1, hok, Bool.false_and, Bool.false_eq_true, List.zipIdx_cons, List.zipIdx_nil, ↓SP, SQ, Gam.add, stepM, callC, argC, lendO, nmBy, nmC, likeL, likeB, plainOb, offs, exL, X, F, trP, trO, stepD, stepW, newA, SV.tr, SV.trL, fz, allP, Ob.tr, loadA, cellsA, SV.cells, binA, binI, eqOut, isSl, isPt, natOf, callee, snap, SV.refsL, SV.refs, thaw, fzAll, loA, hiA, elemOf, partsA, buildA, putCells, ↓reduceIte, reduceCtorEq, okCell, Nat.reduceAdd, Nat.reduceEqDiff, Nat.reduceSub, Nat.reduceMul, Nat.reduceLeDiff, Nat.reduceLT, Nat.reduceBEq, PV.scal, PV.scalL, SV.scal, SV.scalL, Ob.scal, PV.isCell, pure', resO]
    refine finA_gen [] trivial (by simp [retA, rvA, mkE_cons, mk_nil, mkO_cons, mkO_nil, loadA, SV.tr, SV.trL, nmF, rn_nil, rn_cons1, rn_cons2, plainOb, SV.refsL, SV.refs, Ob.refs, X, F, List.range_succ, mkO, setO_mk]; rfl) ?_ ?_ ?_ ?_ ?_ ?_ ?_ <;> simp [retA, rvA, mkE_cons, mk_nil, mkO_cons, mkO_nil, loadA, SV.tr, SV.trL, nmF, rn_nil, rn_cons1, rn_cons2, plainOb, SV.refsL, SV.refs, Ob.refs, X, F, List.range_succ, mkO, setO_mk]
  | true =>
    cases h2 : (decide (0 ≤ t) && decide (t ≤ 6)) with
    | false =>
      have hok : okR n q t = false := by simp only [okR, h2, Bool.and_false]
      refine is.go hm hΓ k_s_RepeatTree o_s_RepeatTree (by simp [a_s_RepeatTree]) ?_
      simp only [a_s_RepeatTree, h_l2Asks, c_isQuestion, h_l1In, c_in, h_l9Leaf, c_l9Leaf, h_l9Join, c_l9Join, h1, h2, hok, Bool.and_false, Bool.false_eq_true, List.zipIdx_cons, List.zipIdx_nil, ↓SP, SQ, Gam.add, stepM, callC, argC, lendO, nmBy, nmC, likeL, likeB, plainOb, offs, exL, X, F, trP, trO, stepD, stepW, newA, SV.tr, SV.trL, fz, allP, Ob.tr, loadA, cellsA, SV.cells, binA, binI, eqOut, isSl, isPt, natOf, callee, snap, SV.refsL, SV.refs, thaw, fzAll, loA, hiA, elemOf, partsA, buildA, putCells, ↓reduceIte, reduceCtorEq, okCell, Nat.reduceAdd, Nat.reduceEqDiff, Nat.reduceSub, Nat.reduceMul, Nat.reduceLeDiff, Nat.reduceLT, Nat.reduceBEq, PV.scal, PV.scalL, SV.scal, SV.scalL, Ob.scal, PV.isCell, pure', resO]
      refine finA_gen [] trivial (by simp [retA, rvA, mkE_cons, mk_nil, mkO_cons, mkO_nil, loadA, SV.tr, SV.trL, nmF, rn_nil, rn_cons1, rn_cons2, plainOb, SV.refsL, SV.refs, Ob.refs, X, F, List.range_succ, mkO, setO_mk]; rfl) ?_ ?_ ?_ ?_ ?_ ?_ ?_ <;> simp [retA, rvA, mkE_cons, mk_nil, mkO_cons, mkO_nil, loadA, SV.tr, SV.trL, nmF, rn_nil, rn_cons1, rn_cons2, plainOb, SV.refsL, SV.refs, Ob.refs, X, F, List.range_succ, mkO, setO_mk]
    | true =>
      have ht : 0 ≤ t ∧ t ≤ 6 := by simpa using h2
      have hok : okR n q t = true := by simp only [okR, h1, h2, Bool.and_self]
      obtain ⟨t, rfl⟩ : ∃ j : Nat, t = j := ⟨t.toNat, by omega⟩
      simp only [hok, if_true, Int.toNat_natCast]
      have ht2 : (t : Int) ≤ 6 := ht.2
      refine is.go hm hΓ k_s_RepeatTree o_s_RepeatTree (by simp [a_s_RepeatTree]) ?_
      simp only [a_s_RepeatTree, h_l2Asks, c_isQuestion, h_l1In, c_in, h_l9Leaf, c_l9Leaf, h1, h2, ht2, Int.natCast_nonneg, List.zipIdx_cons, List.zipIdx_nil, ↓SP, SQ, Gam.add, stepM, callC, argC, lendO, nmBy, nmC, likeL, likeB, plainOb, offs, exL, X, F, trP, trO, stepD, stepW, newA, SV.tr, SV.trL, fz, allP, Ob.tr, loadA, cellsA, SV.cells, binA, binI, eqOut, isSl, isPt, natOf, callee, snap, SV.refsL, SV.refs, thaw, fzAll, loA, hiA, elemOf, partsA, buildA, putCells, ↓reduceIte, reduceCtorEq, okCell, Nat.reduceAdd, Nat.reduceEqDiff, Nat.reduceSub, Nat.reduceMul, Nat.reduceLeDiff, Nat.reduceLT, Nat.reduceBEq, PV.scal, PV.scalL, SV.scal, SV.scalL, Ob.scal, PV.isCell, pure', resO]
      refine loop_at (fun st : Nat × SV × SV × Option Ob × Option Ob => mkEnv [(0, si n), (1, si q), (2, si t), (6, .bx 6 0), (7, sb false), (8, st.2.1), (9, si st.1), (18, sb false), (24, st.2.2.1)]) (fun st => mkO [(6, some (.box [.p .nilsl])), (21, st.2.2.2.1), (30, st.2.2.2.2)]) (fun st => st.1 ≤ t ∧ ((st.2.1 = .ar 21 ∧ st.2.2.2.1 = some (.arr 3 (nds (trB (rpB q st.1) 0))) ∧ st.2.2.2.2 = none) ∨ (st.2.1 = .ar 30 ∧ st.2.2.2.2 = some (.arr 3 (nds (trB (rpB q st.1) 0))) ∧ st.2.2.2.1 = none))) (fun st => t - st.1) (0, .ar 21, .junk, some (.arr 3 (nds (trB (rpB q 0) 0))), none) ⟨by simp, .inl ⟨rfl, rfl, rfl⟩⟩ rfl rfl ?_
      rintro ⟨j, v8, c1, o21, o30⟩ ⟨hj, hs⟩ R hR hN
      simp only at hj hs
      have hN1 := rpB_N q j
      by_cases h : j < t
      · have hlt : (j : Int) < t := by omega
        have hw := wrap_one (i := j) (by omega)
        have hp : 2 ^ (j + 1) ≤ 2 ^ 7 := Nat.pow_le_pow_right (by omega) (by omega)
        have q1 : (trB (rpB q j) 0).length ≤ 1000 := by rw [trB_len]; omega
        have q2 := trB_bd (rpB q j) 0 (Int.le_refl _) (by omega)
        have q3 : jnN q (trB (rpB q j) 0) (trB (rpB q j) 0) = trB (rpB q (j + 1)) 0 := jn_tr q _ _
        have q4 := isNs_nds (trB (rpB q j) 0)
        rcases hs with ⟨rfl, rfl, rfl⟩ | ⟨rfl, rfl, rfl⟩
        · simp only [hlt, hw, q1, q2, q3, q4, h_l9Join, c_l9Join, ofNs_nds, nds_len, ↓SP, SQ, Gam.add, stepM, callC, argC, lendO, nmBy, nmC, likeL, likeB, plainOb, offs, exL, X, F, trP, trO, stepD, stepW, newA, SV.tr, SV.trL, fz, allP, Ob.tr, loadA, cellsA, SV.cells, binA, binI, eqOut, isSl, isPt, natOf, callee, snap, SV.refsL, SV.refs, thaw, fzAll, loA, hiA, elemOf, partsA, buildA, putCells, ↓reduceIte, reduceCtorEq, okCell, Nat.reduceAdd, Nat.reduceEqDiff, Nat.reduceSub, Nat.reduceMul, Nat.reduceLeDiff, Nat.reduceLT, Nat.reduceBEq, PV.scal, PV.scalL, SV.scal, SV.scalL, Ob.scal, PV.isCell, pure', resO]
          exact hN (j + 1, .ar 30, _, none, some (.arr 3 (nds (trB (rpB q (j + 1)) 0)))) _ _ ⟨by simp only; omega, .inr ⟨rfl, rfl, rfl⟩⟩ (by simp only; omega) rfl rfl
        · simp only [hlt, hw, q1, q2, q3, q4, h_l9Join, c_l9Join, ofNs_nds, nds_len, ↓SP, SQ, Gam.add, stepM, callC, argC, lendO, nmBy, nmC, likeL, likeB, plainOb, offs, exL, X, F, trP, trO, stepD, stepW, newA, SV.tr, SV.trL, fz, allP, Ob.tr, loadA, cellsA, SV.cells, binA, binI, eqOut, isSl, isPt, natOf, callee, snap, SV.refsL, SV.refs, thaw, fzAll, loA, hiA, elemOf, partsA, buildA, putCells, ↓reduceIte, reduceCtorEq, okCell, Nat.reduceAdd, Nat.reduceEqDiff, Nat.reduceSub, Nat.reduceMul, Nat.reduceLeDiff, Nat.reduceLT, Nat.reduceBEq, PV.scal, PV.scalL, SV.scal, SV.scalL, Ob.scal, PV.isCell, pure', resO]
          exact hN (j + 1, .ar 30, _, none, some (.arr 3 (nds (trB (rpB q (j + 1)) 0)))) _ _ ⟨by simp only; omega, .inr ⟨rfl, rfl, rfl⟩⟩ (by simp only; omega) rfl rfl
      · have he : j = t := by omega
        subst he
        have hlt : ¬ (j : Int) < j := by omega
        rcases hs with ⟨rfl, rfl, rfl⟩ | ⟨rfl, rfl, rfl⟩
        · simp only [hlt, ↓SP, SQ, Gam.add, stepM, callC, argC, lendO, nmBy, nmC, likeL, likeB, plainOb, offs, exL, X, F, trP, trO, stepD, stepW, newA, SV.tr, SV.trL, fz, allP, Ob.tr, loadA, cellsA, SV.cells, binA, binI, eqOut, isSl, isPt, natOf, callee, snap, SV.refsL, SV.refs, thaw, fzAll, loA, hiA, elemOf, partsA, buildA, putCells, ↓reduceIte, reduceCtorEq, okCell, Nat.reduceAdd, Nat.reduceEqDiff, Nat.reduceSub, Nat.reduceMul, Nat.reduceLeDiff, Nat.reduceLT, Nat.reduceBEq, PV.scal, PV.scalL, SV.scal, SV.scalL, Ob.scal, PV.isCell, pure', resO]
          refine hR _ _ _ (by intro h; cases h) ?_
          simp only [↓SP, SQ, Gam.add, stepM, callC, argC, lendO, nmBy, nmC, likeL, likeB, plainOb, offs, exL, X, F, trP, trO, stepD, stepW, newA, SV.tr, SV.trL, fz, allP, Ob.tr, loadA, cellsA, SV.cells, binA, binI, eqOut, isSl, isPt, natOf, callee, snap, SV.refsL, SV.refs, thaw, fzAll, loA, hiA, elemOf, partsA, buildA, putCells, ↓reduceIte, reduceCtorEq, okCell, Nat.reduceAdd, Nat.reduceEqDiff, Nat.reduceSub, Nat.reduceMul, Nat.reduceLeDiff, Nat.reduceLT, Nat.reduceBEq, PV.scal, PV.scalL, SV.scal, SV.scalL, Ob.scal, PV.isCell, pure', resO]
          refine finA_gen [21] trivial (by simp [retA, rvA, mkE_cons, mk_nil, mkO_cons, mkO_nil, loadA, SV.tr, SV.trL, nmF, rn_nil, rn_cons1, rn_cons2, plainOb, SV.refsL, SV.refs, Ob.refs, X, F, List.range_succ, mkO, setO_mk]; rfl) ?_ ?_ ?_ ?_ ?_ ?_ ?_ <;> simp [retA, rvA, mkE_cons, mk_nil, mkO_cons, mkO_nil, loadA, SV.tr, SV.trL, nmF, rn_nil, rn_cons1, rn_cons2, plainOb, SV.refsL, SV.refs, Ob.refs, X, F, List.range_succ, mkO, setO_mk]
        · simp only [hlt, ↓SP, SQ, Gam.add, stepM, callC, argC, lendO, nmBy, nmC, likeL, likeB, plainOb, offs, exL, X, F, trP, trO, stepD, stepW, newA, SV.tr, SV.trL, fz, allP, Ob.tr, loadA, cellsA, SV.cells, binA, binI, eqOut, isSl, isPt, natOf, callee, snap, SV.refsL, SV.refs, thaw, fzAll, loA, hiA, elemOf, partsA, buildA, putCells, ↓reduceIte, reduceCtorEq, okCell, Nat.reduceAdd, Nat.reduceEqDiff, Nat.reduceSub, Nat.reduceMul, Nat.reduceLeDiff, Nat.reduceLT, Nat.reduceBEq, PV.scal, PV.scalL, SV.scal, SV.scalL, Ob.scal, PV.isCell, pure', resO]
          refine hR _ _ _ (by intro h; cases h) ?_
          simp only [↓SP, SQ, Gam.add, stepM, callC, argC, lendO, nmBy, nmC, likeL, likeB, plainOb, offs, exL, X, F, trP, trO, stepD, stepW, newA, SV.tr, SV.trL, fz, allP, Ob.tr, loadA, cellsA, SV.cells, binA, binI, eqOut, isSl, isPt, natOf, callee, snap, SV.refsL, SV.refs, thaw, fzAll, loA, hiA, elemOf, partsA, buildA, putCells, ↓reduceIte, reduceCtorEq, okCell, Nat.reduceAdd, Nat.reduceEqDiff, Nat.reduceSub, Nat.reduceMul, Nat.reduceLeDiff, Nat.reduceLT, Nat.reduceBEq, PV.scal, PV.scalL, SV.scal, SV.scalL, Ob.scal, PV.isCell, pure', resO]
          refine finA_gen [30] trivial (by simp [retA, rvA, mkE_cons, mk_nil, mkO_cons, mkO_nil, loadA, SV.tr, SV.trL, nmF, rn_nil, rn_cons1, rn_cons2, plainOb, SV.refsL, SV.refs, Ob.refs, X, F, List.range_succ, mkO, setO_mk]; rfl) ?_ ?_ ?_ ?_ ?_ ?_ ?_ <;> simp [retA, rvA, mkE_cons, mk_nil, mkO_cons, mkO_nil, loadA, SV.tr, SV.trL, nmF, rn_nil, rn_cons1, rn_cons2, plainOb, SV.refsL, SV.refs, Ob.refs, X, F, List.range_succ, mkO, setO_mk]
def a_x_RepeatTree (f_s_RepeatTree : FuncId) (f_RepeatTree : FuncId) (f_eqTree : FuncId) (f_markTree : FuncId) (f_heldTree : FuncId) : AFn := ⟨3, 
  .seq (.reg [⟨some 6, none, .d (.mv (.c (.bool false)))⟩])
  (.seq (.reg [⟨some 16, none, .d (.mv (.t 0))⟩,
    ⟨some 17, none, .d (.mv (.t 1))⟩,
    ⟨some 18, none, .d (.mv (.t 2))⟩,
    ⟨some 19, none, .d (.call (.f f_s_RepeatTree) [(.t 16), (.t 17), (.t 18)])⟩,
    ⟨some 15, none, .d (.mv (.t 19))⟩,
    ⟨some 20, none, .d (.extract (.t 15) 0)⟩,
    ⟨some 21, none, .d (.extract (.t 15) 1)⟩,
    ⟨some 7, none, .w (.alloc [.nilsl])⟩,
    ⟨none, none, .w (.store 1 (.t 7) (.t 20))⟩,
    ⟨some 8, none, .d (.mv (.t 21))⟩])
  (.seq (.reg [⟨some 23, none, .d (.mv (.t 0))⟩,
    ⟨some 24, none, .d (.mv (.t 1))⟩,
    ⟨some 25, none, .d (.mv (.t 2))⟩,
    ⟨some 26, none, .w (.callL (.f f_RepeatTree) [(.t 23), (.t 24), (.t 25)] [] 1 false)⟩,
    ⟨some 22, none, .d (.mv (.t 26))⟩,
    ⟨some 27, none, .d (.extract (.t 22) 0)⟩,
    ⟨some 28, none, .d (.extract (.t 22) 1)⟩,
    ⟨some 9, none, .w (.alloc [.nilsl])⟩,
    ⟨none, none, .w (.store 1 (.t 9) (.t 27))⟩,
    ⟨some 10, none, .d (.mv (.t 28))⟩])
  (.seq (.seq (.reg [⟨some 29, none, .d (.load true 1 (.t 9))⟩,
    ⟨some 30, none, .d (.load true 1 (.t 7))⟩,
    ⟨some 31, none, .d (.call (.f f_eqTree) [(.t 29), (.t 30)])⟩,
    ⟨some 32, none, .d (.not (.t 31))⟩,
    ⟨some 33, none, .d (.mv (.t 32))⟩,
    ⟨some 34, some (33, false), .d (.mv (.t 10))⟩,
    ⟨some 35, some (33, false), .d (.mv (.t 8))⟩,
    ⟨some 36, some (33, false), .d (.bin .bool .neq (.t 34) (.t 35))⟩,
    ⟨some 37, none, .d (.pick (.t 33) (.c (.bool true)) (.t 36))⟩])
  (.cond (.t 37) (.seq (.reg [⟨some 6, none, .d (.mv (.c (.bool false)))⟩])
   (.ret)) (.skip)))
  (.seq (.reg [⟨some 11, none, .d (.mv (.c (.int .i64 1)))⟩])
  (.seq (.reg [⟨some 38, none, .d (.load true 1 (.t 9))⟩,
    ⟨some 39, none, .d (.mv (.t 11))⟩,
    ⟨some 40, none, .w (.callL (.f f_markTree) [(.t 38), (.t 39)] [26] 0 false)⟩,
    ⟨some 11, none, .d (.mv (.t 40))⟩])
  (.seq (.reg [⟨some 12, none, .d (.mv (.c (.int .i64 1)))⟩])
  (.seq (.reg [⟨some 41, none, .d (.load true 1 (.t 9))⟩,
    ⟨some 42, none, .d (.mv (.t 12))⟩,
    ⟨some 43, none, .d (.call (.f f_heldTree) [(.t 41), (.t 42)])⟩,
    ⟨some 12, none, .d (.mv (.t 43))⟩])
  (.seq (.seq (.reg [⟨some 44, none, .d (.mv (.t 12))⟩,
    ⟨some 45, none, .d (.bin .arith .lss (.t 44) (.c (.int .i64 0)))⟩])
  (.cond (.t 45) (.seq (.reg [⟨some 6, none, .d (.mv (.c (.bool false)))⟩])
   (.ret)) (.skip)))
  (.seq (.seq (.reg [⟨some 46, none, .d (.mv (.t 12))⟩,
    ⟨some 47, none, .d (.mv (.t 11))⟩,
    ⟨some 48, none, .d (.bin .arith .neq (.t 46) (.t 47))⟩])
  (.cond (.t 48) (.seq (.reg [⟨some 6, none, .d (.mv (.c (.bool false)))⟩])
   (.ret)) (.skip)))
  (.seq (.reg [⟨some 50, none, .d (.mv (.t 0))⟩,
    ⟨some 51, none, .d (.mv (.t 1))⟩,
    ⟨some 52, none, .d (.mv (.t 2))⟩,
    ⟨some 53, none, .d (.call (.f f_RepeatTree) [(.t 50), (.t 51), (.t 52)])⟩,
    ⟨some 49, none, .d (.mv (.t 53))⟩,
    ⟨some 54, none, .d (.extract (.t 49) 0)⟩,
    ⟨some 55, none, .d (.extract (.t 49) 1)⟩,
    ⟨some 13, none, .w (.alloc [.nilsl])⟩,
    ⟨none, none, .w (.store 1 (.t 13) (.t 54))⟩,
    ⟨some 14, none, .d (.mv (.t 55))⟩])
  (.seq (.seq (.reg [⟨some 56, none, .d (.load true 1 (.t 13))⟩,
    ⟨some 57, none, .d (.load true 1 (.t 7))⟩,
    ⟨some 58, none, .d (.call (.f f_eqTree) [(.t 56), (.t 57)])⟩,
    ⟨some 59, none, .d (.not (.t 58))⟩,
    ⟨some 60, none, .d (.mv (.t 59))⟩,
    ⟨some 61, some (60, false), .d (.mv (.t 14))⟩,
    ⟨some 62, some (60, false), .d (.mv (.t 8))⟩,
    ⟨some 63, some (60, false), .d (.bin .bool .neq (.t 61) (.t 62))⟩,
    ⟨some 64, none, .d (.pick (.t 60) (.c (.bool true)) (.t 63))⟩])
  (.cond (.t 64) (.seq (.reg [⟨some 6, none, .d (.mv (.c (.bool false)))⟩])
   (.ret)) (.skip)))
  (.seq (.reg [⟨some 12, none, .d (.mv (.c (.int .i64 1)))⟩])
  (.seq (.reg [⟨some 65, none, .d (.load true 1 (.t 9))⟩,
    ⟨some 66, none, .d (.mv (.t 12))⟩,
    ⟨some 67, none, .d (.call (.f f_heldTree) [(.t 65), (.t 66)])⟩,
    ⟨some 12, none, .d (.mv (.t 67))⟩])
  (.seq (.seq (.reg [⟨some 68, none, .d (.mv (.t 12))⟩,
    ⟨some 69, none, .d (.bin .arith .lss (.t 68) (.c (.int .i64 0)))⟩])
  (.cond (.t 69) (.seq (.reg [⟨some 6, none, .d (.mv (.c (.bool false)))⟩])
   (.ret)) (.skip)))
  (.seq (.seq (.reg [⟨some 70, none, .d (.mv (.t 12))⟩,
    ⟨some 71, none, .d (.mv (.t 11))⟩,
    ⟨some 72, none, .d (.bin .arith .neq (.t 70) (.t 71))⟩])
  (.cond (.t 72) (.seq (.reg [⟨some 6, none, .d (.mv (.c (.bool false)))⟩])
   (.ret)) (.skip)))
  (.seq (.reg [⟨some 6, none, .d (.mv (.c (.bool true)))⟩])
  (.ret))))))))))))))))), [.tmp 6]⟩
def n_x_RepeatTree : Nat → Option Ann := fun d => if d = 26 then some ⟨[], 1, false⟩ else if d = 40 then some ⟨[26], 0, false⟩ else none
abbrev k_x_RepeatTree : List Nat := [0, 1, 2, 6, 7, 8, 9, 10, 11, 12, 13, 14, 37, 45, 48, 64, 69, 72]
abbrev o_x_RepeatTree : List Nat := [7, 9, 13, 26]
def c_x_RepeatTree : Con := pure' fun
  | [.p (.int .i64 n), .p (.int .i64 q), .p (.int .i64 t)] => if (True) then some (.p (.bool true), []) else none
  | _ => none
theorem s_x_RepeatTree {P : Program} (hm : P.follows .mixedOrders = true) {Γ : Gam} (hΓ : GS P Γ) {n : FuncId} {f_s_RepeatTree : FuncId} {f_RepeatTree : FuncId} {f_eqTree : FuncId} {f_markTree : FuncId} {f_heldTree : FuncId} (is : Is P n (a_x_RepeatTree f_s_RepeatTree f_RepeatTree f_eqTree f_markTree f_heldTree)) (h_s_RepeatTree : Γ f_s_RepeatTree = c_s_RepeatTree) (h_RepeatTree : Γ f_RepeatTree = c_RepeatTree) (h_eqTree : Γ f_eqTree = c_eqTree) (h_markTree : Γ f_markTree = c_markTree) (h_heldTree : Γ f_heldTree = c_heldTree)  : Says P n c_x_RepeatTree := by
  refine Says.pure fun args r fs h => ?_
  split at h
  case h_2 => cases h
  rename_i n q t
  split at h
  case isFalse => cases h
  rename_i hc
  simp only [ofI_ints, ofBo_bools, ofAs_asks, Option.some.injEq, Prod.mk.injEq] at h hc
  obtain ⟨rfl, rfl⟩ := h
  cases hok : okR n q t with
  | true =>
    have hok2 : (isQ n q && (decide (0 ≤ t) && decide (t ≤ 6))) = true := hok
    have ht : 0 ≤ t ∧ t ≤ 6 := by
      have := (Bool.and_eq_true _ _ ▸ hok2 : _ ∧ _).2
      simpa using this
    have hN := rpB_N q t.toNat
    have hp : 2 ^ (t.toNat + 1) ≤ 2 ^ 7 := Nat.pow_le_pow_right (by omega) (by omega)
    obtain ⟨L, hL⟩ : ∃ L, trB (rpB q t.toNat) 0 = L := ⟨_, rfl⟩
    have q4 : L.length ≤ 1000 := by rw [← hL, trB_len]; omega
    have q5 : L.length ≤ 1100000 := by omega
    have hmy := marksN_len 1 L.length
    have hhy := heldN_marks 1 L.length
    have hi := isNs_nds L
    have q3 : ¬ (1 : Int) + 3 * (L.length : Int) < 0 := by omega
    refine is.go hm hΓ k_x_RepeatTree o_x_RepeatTree (by simp [a_x_RepeatTree]) ?_
    simp only [a_x_RepeatTree, h_s_RepeatTree, c_s_RepeatTree, h_RepeatTree, c_RepeatTree, h_eqTree, c_eqTree, h_markTree, c_markTree, h_heldTree, c_heldTree, hok, hok2, hL, q3, q4, q5, hmy, hhy, hi, nds_len, ofNs_nds, slN_sl, beq_self_eq_true, Bool.not_true, Int.reduceLE, Int.reduceNeg, Int.reduceLT, bne_self_eq_false, List.zipIdx_cons, List.zipIdx_nil, ↓SP, SQ, Gam.add, stepM, callC, argC, lendO, nmBy, nmC, likeL, likeB, plainOb, offs, exL, X, F, trP, trO, stepD, stepW, newA, SV.tr, SV.trL, fz, allP, Ob.tr, loadA, cellsA, SV.cells, binA, binI, eqOut, isSl, isPt, natOf, callee, snap, SV.refsL, SV.refs, thaw, fzAll, loA, hiA, elemOf, partsA, buildA, putCells, ↓reduceIte, reduceCtorEq, okCell, Nat.reduceAdd, Nat.reduceEqDiff, Nat.reduceSub, Nat.reduceMul, Nat.reduceLeDiff, Nat.reduceLT, Nat.reduceBEq, PV.scal, PV.scalL, SV.scal, SV.scalL, Ob.scal, PV.isCell, pure', resO]
    exact finA_val (by simp [retA, rvA, mkE_cons, mk_nil, mkO_cons, mkO_nil, loadA, SV.tr, SV.trL, nmF, rn_nil, rn_cons1, rn_cons2, plainOb, SV.refsL, SV.refs, Ob.refs, X, F, List.range_succ, mkO, setO_mk]) (by simp [SV.tr, SV.trL])
  | false =>
    have hok2 : (isQ n q && (decide (0 ≤ t) && decide (t ≤ 6))) = false := hok
    have hnb : heldN [] 1 := fun j hj => by simp at hj
    refine is.go hm hΓ k_x_RepeatTree o_x_RepeatTree (by simp [a_x_RepeatTree]) ?_
    simp only [a_x_RepeatTree, h_s_RepeatTree, c_s_RepeatTree, h_RepeatTree, c_RepeatTree, h_eqTree, c_eqTree, h_markTree, c_markTree, h_heldTree, c_heldTree, hok, hok2, hnb, slN_nil, Bool.false_eq_true, beq_self_eq_true, Bool.not_true, Int.reduceLE, Int.reduceNeg, Int.reduceLT, bne_self_eq_false, List.zipIdx_cons, List.zipIdx_nil, ↓SP, SQ, Gam.add, stepM, callC, argC, lendO, nmBy, nmC, likeL, likeB, plainOb, offs, exL, X, F, trP, trO, stepD, stepW, newA, SV.tr, SV.trL, fz, allP, Ob.tr, loadA, cellsA, SV.cells, binA, binI, eqOut, isSl, isPt, natOf, callee, snap, SV.refsL, SV.refs, thaw, fzAll, loA, hiA, elemOf, partsA, buildA, putCells, ↓reduceIte, reduceCtorEq, okCell, Nat.reduceAdd, Nat.reduceEqDiff, Nat.reduceSub, Nat.reduceMul, Nat.reduceLeDiff, Nat.reduceLT, Nat.reduceBEq, PV.scal, PV.scalL, SV.scal, SV.scalL, Ob.scal, PV.isCell, pure', resO]
    exact finA_val (by simp [retA, rvA, mkE_cons, mk_nil, mkO_cons, mkO_nil, loadA, SV.tr, SV.trL, nmF, rn_nil, rn_cons1, rn_cons2, plainOb, SV.refsL, SV.refs, Ob.refs, X, F, List.range_succ, mkO, setO_mk]) (by simp [SV.tr, SV.trL])
end Go.Proofs.Ytnjdlhinekfghaa.Pam
