/- A part of the proof that stands in this folder: a small machine whose steps are shown to be the steps of the model, or walks of functions by it. No condition of its own. -/
import Derived.Test.YtihpfhdkjlphhaaGgOE
set_option linter.unusedVariables false
set_option linter.unusedSimpArgs false
namespace Go.Proofs.Ytihpfhdkjlphhaa.Pam
open Go
def mo (x : Int) : Int := if 1 > x + 1 then 1 else x + 1
theorem mo_b (x : Int) : 1 ≤ mo x ∧ (mo x = x + 1 ∨ (x < 0 ∧ mo x = 1)) := by unfold mo; split <;> omega
/-- a split, drawn one by one. -/
def spS (l cs : List Int) (c : Cu) : Nat → List Int × Cu
  | 0 => ([], c)
  | j + 1 => ((spS l cs c j).1 ++ [pkV l (mo (cs.getD j 0)) (spS l cs c j).2], pkC l (mo (cs.getD j 0)) (spS l cs c j).2)
theorem spS_b {l : List Int} (hl : ∀ x ∈ l, 0 ≤ x ∧ x ≤ 255) {b : Int} {c : Cu} (cs : List Int) (hcs : ∀ x ∈ cs, x ≤ 100) (hc : CuA c b) : ∀ j, j ≤ cs.length → (spS l cs c j).1.length = j ∧ CuA (spS l cs c j).2 (b + j) ∧ ∀ x ∈ (spS l cs c j).1, 0 ≤ x ∧ x ≤ 100
  | 0, _ => ⟨rfl, by simpa [spS] using hc, by simp [spS]⟩
  | j + 1, hj => by
    obtain ⟨h1, h4, h5⟩ := spS_b hl cs hcs hc j (by omega)
    have hb := pkV_b hl (n := mo (cs.getD j 0)) h4.1
    have hm := mo_b (cs.getD j 0)
    have hx := hcs (cs.getD j 0) (by rw [show cs.getD j 0 = cs[j] by simp [show j < cs.length by omega]]; exact List.getElem_mem _)
    refine ⟨by simp [spS, h1], ?_, ?_⟩
    · have := h4.pk l (mo (cs.getD j 0))
      simp only [spS]
      exact this.mono (by omega)
    · intro x hx'
      simp only [spS, List.mem_append, List.mem_singleton] at hx'
      rcases hx' with hx' | rfl
      · exact h5 x hx'
      · omega
def spA (l cs : List Int) (S : List Int × Cu) : List Int × Cu := if 0 < S.1.length then (if pkV l 24 S.2 = 0 then (S.1.set 0 (amV l [-1, cs.getD 0 0 + 1] (pkC l 24 S.2)), pkC l 2 (pkC l 24 S.2)) else (S.1, pkC l 24 S.2)) else S
def spB (l : List Int) (S : List Int × Cu) : List Int × Cu := (if pkV l 40 S.2 = 0 then S.1 ++ [0] else S.1, pkC l 40 S.2)
def spR (l cs : List Int) (c : Cu) : List Int × Cu := spB l (spA l cs (spS l cs c cs.length))
def a_split (f_l1Most : FuncId) (f_pick : FuncId) (f_one : FuncId) (f_among : FuncId) : AFn := ⟨2, 
  .seq (.reg [⟨some 4, none, .d (.mv (.c (.nilsl)))⟩])
  (.seq (.reg [⟨some 7, none, .w (.bslice 1 [] [])⟩,
    ⟨some 5, none, .d (.mv (.t 7))⟩])
  (.seq (.seq (.reg [⟨some 6, none, .d (.mv (.c (.int .i64 0)))⟩])
  (.block 0 (.loop (.seq (.seq (.reg [⟨some 8, none, .d (.mv (.t 6))⟩,
      ⟨some 9, none, .d (.mv (.t 1))⟩,
      ⟨some 10, none, .d (.len (.t 9))⟩,
      ⟨some 11, none, .d (.bin .arith .lss (.t 8) (.t 10))⟩])
    (.cond (.t 11) (.skip) (.exit 0)))
    (.seq (.block 1 (.reg [⟨some 14, none, .d (.mv (.t 5))⟩,
       ⟨some 15, none, .d (.mv (.t 0))⟩,
       ⟨some 16, none, .d (.mv (.t 1))⟩,
       ⟨some 17, none, .d (.mv (.t 6))⟩,
       ⟨some 18, none, .d (.ia 1 (.t 16) (.t 17))⟩,
       ⟨some 19, none, .d (.load false 1 (.t 18))⟩,
       ⟨some 20, none, .d (.bin .arith .add (.t 19) (.c (.int .i64 1)))⟩,
       ⟨some 21, none, .d (.call (.f f_l1Most) [(.c (.int .i64 1)), (.t 20)])⟩,
       ⟨some 22, none, .w (.callL (.f f_pick) [(.t 15), (.t 21)] [1000000] 0 false)⟩,
       ⟨some 23, none, .w (.bslice 1 [.int .i64 0] [(0, (.t 22))])⟩,
       ⟨some 24, none, .w (.append 1 (.t 14) (.t 23))⟩,
       ⟨some 5, none, .d (.mv (.t 24))⟩]))
    (.reg [⟨some 12, none, .d (.mv (.t 6))⟩,
      ⟨some 13, none, .d (.bin .arith .add (.t 12) (.c (.int .i64 1)))⟩,
      ⟨some 6, none, .d (.mv (.t 13))⟩]))))))
  (.seq (.seq (.reg [⟨some 25, none, .d (.mv (.t 5))⟩,
    ⟨some 26, none, .d (.len (.t 25))⟩,
    ⟨some 27, none, .d (.bin .arith .gtr (.t 26) (.c (.int .i64 0)))⟩,
    ⟨some 28, none, .d (.mv (.t 27))⟩,
    ⟨some 29, some (28, true), .d (.mv (.t 0))⟩,
    ⟨some 30, some (28, true), .w (.callL (.f f_one) [(.t 29), (.c (.int .i64 24))] [1000000] 0 false)⟩,
    ⟨some 31, none, .d (.pick (.t 28) (.t 30) (.c (.bool false)))⟩])
  (.cond (.t 31) (.reg [⟨some 32, none, .d (.mv (.t 5))⟩,
     ⟨some 33, none, .d (.mv (.t 0))⟩,
     ⟨some 34, none, .d (.mv (.t 1))⟩,
     ⟨some 35, none, .d (.ia 1 (.t 34) (.c (.int .i64 0)))⟩,
     ⟨some 36, none, .d (.load false 1 (.t 35))⟩,
     ⟨some 37, none, .d (.bin .arith .add (.t 36) (.c (.int .i64 1)))⟩,
     ⟨some 38, none, .w (.bslice 1 [.int .i64 0, .int .i64 0] [(0, (.c (.int .i64 (-1)))), (1, (.t 37))])⟩,
     ⟨some 39, none, .w (.callL (.f f_among) [(.t 33), (.t 38)] [1000000] 0 true)⟩,
     ⟨some 40, none, .d (.ia 1 (.t 32) (.c (.int .i64 0)))⟩,
     ⟨none, none, .w (.store 1 (.t 40) (.t 39))⟩]) (.skip)))
  (.seq (.seq (.reg [⟨some 41, none, .d (.mv (.t 0))⟩,
    ⟨some 42, none, .w (.callL (.f f_one) [(.t 41), (.c (.int .i64 40))] [1000000] 0 false)⟩])
  (.cond (.t 42) (.reg [⟨some 43, none, .d (.mv (.t 5))⟩,
     ⟨some 44, none, .w (.bslice 1 [.int .i64 0] [(0, (.c (.int .i64 0)))])⟩,
     ⟨some 45, none, .w (.append 1 (.t 43) (.t 44))⟩,
     ⟨some 5, none, .d (.mv (.t 45))⟩]) (.skip)))
  (.seq (.reg [⟨some 46, none, .d (.mv (.t 5))⟩,
    ⟨some 4, none, .d (.mv (.t 46))⟩])
  (.ret)))))), [.tmp 4]⟩
def n_split : Nat → Option Ann := fun d => if d = 22 then some ⟨[1000000], 0, false⟩ else if d = 30 then some ⟨[1000000], 0, false⟩ else if d = 39 then some ⟨[1000000], 0, true⟩ else if d = 42 then some ⟨[1000000], 0, false⟩ else none
abbrev k_split : List Nat := [0, 1, 4, 5, 6, 11, 31, 42]
abbrev o_split : List Nat := [7, 23, 24, 38, 44, 45]
def c_split : Con
  | [.bx 1000000 0, .p (.sl 1 xs)], [.box [.p v, .p (.int .i64 a), .p (.int .u64 s)]] => match slU v with
    | some l => if 0 ≤ a ∧ a ≤ 500 ∧ isI xs = true ∧ xs.length ≤ 50 ∧ (∀ x ∈ ofI xs, -100 ≤ x ∧ x ≤ 100) then some (.ar 2000000, [.box [.p v, .p (.int .i64 (spR l (ofI xs) (a, s)).2.1), .p (.int .u64 (spR l (ofI xs) (a, s)).2.2)]], [.arr 1 (ints (spR l (ofI xs) (a, s)).1)]) else none
    | none => none
  | _, _ => none
theorem s_split {P : Program} (hm : P.follows .mixedOrders = true) {Γ : Gam} (hΓ : GS P Γ) {n : FuncId} {f_l1Most : FuncId} {f_pick : FuncId} {f_one : FuncId} {f_among : FuncId} (is : Is P n (a_split f_l1Most f_pick f_one f_among)) (h_l1Most : Γ f_l1Most = c_l1Most) (h_pick : Γ f_pick = c_pick) (h_one : Γ f_one = c_one) (h_among : Γ f_among = c_among)  : Says P n c_split := by
  intro args ext r ext' fs h
  unfold c_split at h
  split at h
  case h_2 => cases h
  rename_i cs v a s
  split at h
  case h_2 => cases h
  rename_i l hv
  split at h
  case isFalse => cases h
  rename_i hc
  obtain ⟨h0, h1, hi, hl0, hcs⟩ := hc
  obtain ⟨cs, rfl⟩ := isI_out hi
  simp only [Option.some.injEq, Prod.mk.injEq, ofI_ints, ints_len] at h hcs hl0
  obtain ⟨rfl, rfl, rfl⟩ := h
  have hl := (slU_out hv).2
  have ha0 : CuA (a, s) 500 := ⟨h0, h1⟩
  have hcn := spS_b hl cs (fun x hx => (hcs x hx).2) ha0
  unfold spR
  refine is.goX hm hΓ k_split (1000000 :: o_split) (by simp [a_split]) (by simp) ?_
  simp only [a_split, h_l1Most, c_l1Most, h_one, c_one, h_among, c_among, h_pick, c_pick, hv, List.zipIdx_cons, List.zipIdx_nil, ↓SP, SQ, SU, stepM, callC, argC, nmBy, stepD, stepW, fz, loadA, cellsA, binA, snap, thaw, fzAll, elemOf, partsA, buildA, putCells, ↓reduceIte, reduceCtorEq, okCell, Nat.reduceAdd, Nat.reduceEqDiff, Nat.reduceSub, Nat.reduceMul, Nat.reduceLeDiff, Nat.reduceLT, Nat.reduceBEq]
  generalize hS : spS l cs (a, s) = S at *
  have hSs : ∀ j, S (j + 1) = ((S j).1 ++ [pkV l (mo (cs.getD j 0)) (S j).2], pkC l (mo (cs.getD j 0)) (S j).2) := fun j => by rw [← hS]; rfl
  have hS0 : S 0 = ([], (a, s)) := by rw [← hS]; rfl
  refine loop_at (fun s : Nat × SV × Option Ob => mkEnv [(0, .bx 1000000 0), (1, .p (.sl 1 (ints cs))), (4, .p .nilsl), (5, .ar 7), (6, si s.1), (11, s.2.1), (31, .junk), (42, .junk)])
    (fun s => mkO [(1000000, some (.box [.p v, si (S s.1).2.1, .p (.int .u64 (S s.1).2.2)])), (7, some (.arr 1 (ints (S s.1).1))), (23, s.2.2), (24, none), (38, none), (44, none), (45, none)])
    (fun s => s.1 ≤ cs.length) (fun s => cs.length - s.1) (0, .junk, none) (by simp) (by simp [hS0]) (by simp [hS0]; rfl) ?_
  rintro ⟨j, x11, o23⟩ hj R hR hN
  simp only at hj
  obtain ⟨g1, g4, g5⟩ := hcn j hj
  have r1 := g4.1
  have r2 : (S j).2.1 ≤ 1000 := by have := g4.2; omega
  by_cases h : j < cs.length
  · have hlt : (j : Int) < cs.length := by omega
    have hg := ints_get h
    have hx := hcs (cs.getD j 0) (by rw [show cs.getD j 0 = cs[j] by simp [h]]; exact List.getElem_mem _)
    have hw : IntKind.i64.wrap (cs.getD j 0 + 1) = cs.getD j 0 + 1 := wrap64 (by omega) (by omega)
    have hw1 : IntKind.i64.wrap ((j : Int) + 1) = ((j + 1 : Nat) : Int) := wrap_one (by omega)
    have hmo : (if 1 > cs.getD j 0 + 1 then 1 else cs.getD j 0 + 1) = mo (cs.getD j 0) := rfl
    have hmb := mo_b (cs.getD j 0)
    have hn : mo (cs.getD j 0) ≤ 200 := by omega
    have hap : ints (S j).1 ++ [.int .i64 (pkV l (mo (cs.getD j 0)) (S j).2)] = ints (S (j + 1)).1 := by rw [hSs]; exact ints_app1 _ _
    have hln : (S j).1.length + 1 ≤ roomA := by rw [g1]; exact Nat.le_trans (by omega) (by decide : 100 ≤ roomA)
    have hc1 : pkC l (mo (cs.getD j 0)) (S j).2 = (S (j + 1)).2 := by rw [hSs]
    simp only [h_l1Most, c_l1Most, h_pick, c_pick, hv, r1, r2, hlt, hg, h, hw, hw1, hmo, hn, hap, hln, hc1, cuEta, ↓SP, SQ, SU, stepM, callC, argC, nmBy, stepD, stepW, fz, loadA, cellsA, binA, snap, thaw, fzAll, elemOf, partsA, buildA, putCells, ↓reduceIte, reduceCtorEq, okCell, Nat.reduceAdd, Nat.reduceEqDiff, Nat.reduceSub, Nat.reduceMul, Nat.reduceLeDiff, Nat.reduceLT, Nat.reduceBEq]
    exact hN (j + 1, _, _) _ _ (by simp only; omega) (by simp only; omega) rfl rfl
  · have he : j = cs.length := by omega
    subst he
    have hlt : ¬ (cs.length : Int) < cs.length := by omega
    simp only [hlt, ↓SP, SQ, SU, stepM, callC, argC, nmBy, stepD, stepW, fz, loadA, cellsA, binA, snap, thaw, fzAll, elemOf, partsA, buildA, putCells, ↓reduceIte, reduceCtorEq, okCell, Nat.reduceAdd, Nat.reduceEqDiff, Nat.reduceSub, Nat.reduceMul, Nat.reduceLeDiff, Nat.reduceLT, Nat.reduceBEq]
    refine hR _ _ _ (by intro h; cases h) ?_
    generalize hT : S cs.length = T at *
    have s24 := g4.pk l 24
    have u1 := s24.1
    have u2 : (pkC l 24 T.2).1 ≤ 1000 := by have := s24.2; omega
    by_cases hz : 0 < cs.length
    · have hz1 : 0 < T.1.length := by omega
      have hz2 : ((cs.length : Nat) : Int) > 0 := by omega
      by_cases p0 : pkV l 24 T.2 = 0
      · have p0' : (pkV l 24 T.2 == 0) = true := by simp [p0]
        have hA : spA l cs T = (T.1.set 0 (amV l [-1, cs.getD 0 0 + 1] (pkC l 24 T.2)), pkC l 2 (pkC l 24 T.2)) := by simp [spA, hz1, p0]
        have hg0 := ints_get (l := cs) (i := 0) hz
        have hx := hcs (cs.getD 0 0) (by rw [show cs.getD 0 0 = cs[0] by simp [hz]]; exact List.getElem_mem _)
        have hw : IntKind.i64.wrap (cs.getD 0 0 + 1) = cs.getD 0 0 + 1 := wrap64 (by omega) (by omega)
        have hg := ints_get (l := T.1) (i := 0) hz1
        have hst : (ints T.1).set 0 (.int .i64 (amV l [-1, cs.getD 0 0 + 1] (pkC l 24 T.2))) = ints (T.1.set 0 (amV l [-1, cs.getD 0 0 + 1] (pkC l 24 T.2))) := ints_set _ _ _
        have s2 := s24.pk l 2
        have w1 := s2.1
        have w2 : (pkC l 2 (pkC l 24 T.2)).1 ≤ 1000 := by have := s2.2; omega
        have hln : (T.1.set 0 (amV l [-1, cs.getD 0 0 + 1] (pkC l 24 T.2))).length + 1 ≤ roomA := by rw [List.length_set, g1]; exact Nat.le_trans (by omega) (by decide : 100 ≤ roomA)
        have hap : ints (T.1.set 0 (amV l [-1, cs.getD 0 0 + 1] (pkC l 24 T.2))) ++ [.int .i64 0] = ints ((T.1.set 0 (amV l [-1, cs.getD 0 0 + 1] (pkC l 24 T.2))) ++ [0]) := ints_app1 _ _
        rw [hA]
        by_cases p2 : pkV l 40 (pkC l 2 (pkC l 24 T.2)) = 0
        · have p2' : (pkV l 40 (pkC l 2 (pkC l 24 T.2)) == 0) = true := by simp [p2]
          have hB : spB l ((T.1.set 0 (amV l [-1, cs.getD 0 0 + 1] (pkC l 24 T.2))), (pkC l 2 (pkC l 24 T.2))) = ((T.1.set 0 (amV l [-1, cs.getD 0 0 + 1] (pkC l 24 T.2))) ++ [0], pkC l 40 (pkC l 2 (pkC l 24 T.2))) := by simp [spB, p2]
          simp only [g1, h_one, c_one, hv, r1, r2, hz2, p2', hln, hap, cuEta, (by decide : (24 : Int) ≤ 200), (by decide : (40 : Int) ≤ 200), p0', h_among, c_among, u1, u2, w1, w2, hg0, hw, hg, hst, hz, hz1, isI, ofI, Int.cast_ofNat_Int, Int.le_refl, Int.reduceToNat, ↓SP, SQ, SU, stepM, callC, argC, nmBy, stepD, stepW, fz, loadA, cellsA, binA, snap, thaw, fzAll, elemOf, partsA, buildA, putCells, ↓reduceIte, reduceCtorEq, okCell, Nat.reduceAdd, Nat.reduceEqDiff, Nat.reduceSub, Nat.reduceMul, Nat.reduceLeDiff, Nat.reduceLT, Nat.reduceBEq]
          rw [hB]
          refine finA_gen [7] trivial (by simp [retA, rvA, mkE_cons, mk_nil, mkO_cons, mkO_nil, loadA, SV.tr, SV.trL, nmF, rn_nil, rn_cons1, rn_cons2, plainOb, SV.refsL, SV.refs, Ob.refs, X, F, List.range_succ, mkO, setO_mk]; rfl) ?_ ?_ ?_ ?_ ?_ ?_ ?_ <;> simp [retA, rvA, mkE_cons, mk_nil, mkO_cons, mkO_nil, loadA, SV.tr, SV.trL, nmF, rn_nil, rn_cons1, rn_cons2, plainOb, SV.refsL, SV.refs, Ob.refs, X, F, List.range_succ, mkO, setO_mk]
        · have p2' : (pkV l 40 (pkC l 2 (pkC l 24 T.2)) == 0) = false := by simp [p2]
          have hB : spB l ((T.1.set 0 (amV l [-1, cs.getD 0 0 + 1] (pkC l 24 T.2))), (pkC l 2 (pkC l 24 T.2))) = ((T.1.set 0 (amV l [-1, cs.getD 0 0 + 1] (pkC l 24 T.2))), pkC l 40 (pkC l 2 (pkC l 24 T.2))) := by simp [spB, p2]
          simp only [g1, h_one, c_one, hv, r1, r2, hz2, p2', hln, hap, cuEta, (by decide : (24 : Int) ≤ 200), (by decide : (40 : Int) ≤ 200), p0', h_among, c_among, u1, u2, w1, w2, hg0, hw, hg, hst, hz, hz1, isI, ofI, Int.cast_ofNat_Int, Int.le_refl, Int.reduceToNat, ↓SP, SQ, SU, stepM, callC, argC, nmBy, stepD, stepW, fz, loadA, cellsA, binA, snap, thaw, fzAll, elemOf, partsA, buildA, putCells, ↓reduceIte, reduceCtorEq, okCell, Nat.reduceAdd, Nat.reduceEqDiff, Nat.reduceSub, Nat.reduceMul, Nat.reduceLeDiff, Nat.reduceLT, Nat.reduceBEq]
          rw [hB]
          refine finA_gen [7] trivial (by simp [retA, rvA, mkE_cons, mk_nil, mkO_cons, mkO_nil, loadA, SV.tr, SV.trL, nmF, rn_nil, rn_cons1, rn_cons2, plainOb, SV.refsL, SV.refs, Ob.refs, X, F, List.range_succ, mkO, setO_mk]; rfl) ?_ ?_ ?_ ?_ ?_ ?_ ?_ <;> simp [retA, rvA, mkE_cons, mk_nil, mkO_cons, mkO_nil, loadA, SV.tr, SV.trL, nmF, rn_nil, rn_cons1, rn_cons2, plainOb, SV.refsL, SV.refs, Ob.refs, X, F, List.range_succ, mkO, setO_mk]
      · have p0' : (pkV l 24 T.2 == 0) = false := by simp [p0]
        have hA : spA l cs T = (T.1, pkC l 24 T.2) := by simp [spA, hz1, p0]
        have hln : cs.length + 1 ≤ roomA := Nat.le_trans (by omega) (by decide : 100 ≤ roomA)
        have hap : ints T.1 ++ [.int .i64 0] = ints (T.1 ++ [0]) := ints_app1 _ _
        rw [hA]
        by_cases p2 : pkV l 40 (pkC l 24 T.2) = 0
        · have p2' : (pkV l 40 (pkC l 24 T.2) == 0) = true := by simp [p2]
          have hB : spB l (T.1, (pkC l 24 T.2)) = (T.1 ++ [0], pkC l 40 (pkC l 24 T.2)) := by simp [spB, p2]
          simp only [g1, h_one, c_one, hv, r1, r2, hz2, p2', hln, hap, cuEta, (by decide : (24 : Int) ≤ 200), (by decide : (40 : Int) ≤ 200), p0', u1, u2, ↓SP, SQ, SU, stepM, callC, argC, nmBy, stepD, stepW, fz, loadA, cellsA, binA, snap, thaw, fzAll, elemOf, partsA, buildA, putCells, ↓reduceIte, reduceCtorEq, okCell, Nat.reduceAdd, Nat.reduceEqDiff, Nat.reduceSub, Nat.reduceMul, Nat.reduceLeDiff, Nat.reduceLT, Nat.reduceBEq]
          rw [hB]
          refine finA_gen [7] trivial (by simp [retA, rvA, mkE_cons, mk_nil, mkO_cons, mkO_nil, loadA, SV.tr, SV.trL, nmF, rn_nil, rn_cons1, rn_cons2, plainOb, SV.refsL, SV.refs, Ob.refs, X, F, List.range_succ, mkO, setO_mk]; rfl) ?_ ?_ ?_ ?_ ?_ ?_ ?_ <;> simp [retA, rvA, mkE_cons, mk_nil, mkO_cons, mkO_nil, loadA, SV.tr, SV.trL, nmF, rn_nil, rn_cons1, rn_cons2, plainOb, SV.refsL, SV.refs, Ob.refs, X, F, List.range_succ, mkO, setO_mk]
        · have p2' : (pkV l 40 (pkC l 24 T.2) == 0) = false := by simp [p2]
          have hB : spB l (T.1, (pkC l 24 T.2)) = (T.1, pkC l 40 (pkC l 24 T.2)) := by simp [spB, p2]
          simp only [g1, h_one, c_one, hv, r1, r2, hz2, p2', hln, hap, cuEta, (by decide : (24 : Int) ≤ 200), (by decide : (40 : Int) ≤ 200), p0', u1, u2, ↓SP, SQ, SU, stepM, callC, argC, nmBy, stepD, stepW, fz, loadA, cellsA, binA, snap, thaw, fzAll, elemOf, partsA, buildA, putCells, ↓reduceIte, reduceCtorEq, okCell, Nat.reduceAdd, Nat.reduceEqDiff, Nat.reduceSub, Nat.reduceMul, Nat.reduceLeDiff, Nat.reduceLT, Nat.reduceBEq]
          rw [hB]
          refine finA_gen [7] trivial (by simp [retA, rvA, mkE_cons, mk_nil, mkO_cons, mkO_nil, loadA, SV.tr, SV.trL, nmF, rn_nil, rn_cons1, rn_cons2, plainOb, SV.refsL, SV.refs, Ob.refs, X, F, List.range_succ, mkO, setO_mk]; rfl) ?_ ?_ ?_ ?_ ?_ ?_ ?_ <;> simp [retA, rvA, mkE_cons, mk_nil, mkO_cons, mkO_nil, loadA, SV.tr, SV.trL, nmF, rn_nil, rn_cons1, rn_cons2, plainOb, SV.refsL, SV.refs, Ob.refs, X, F, List.range_succ, mkO, setO_mk]
    · have hz1 : ¬ 0 < T.1.length := by omega
      have hz2 : ¬ ((cs.length : Nat) : Int) > 0 := by omega
      have hA : spA l cs T = (T.1, T.2) := by simp [spA, hz1]
      have hln : cs.length + 1 ≤ roomA := Nat.le_trans (by omega) (by decide : 100 ≤ roomA)
      have hap : ints T.1 ++ [.int .i64 0] = ints (T.1 ++ [0]) := ints_app1 _ _
      rw [hA]
      by_cases p2 : pkV l 40 T.2 = 0
      · have p2' : (pkV l 40 T.2 == 0) = true := by simp [p2]
        have hB : spB l (T.1, T.2) = (T.1 ++ [0], pkC l 40 T.2) := by simp [spB, p2]
        simp only [g1, h_one, c_one, hv, r1, r2, hz2, p2', hln, hap, cuEta, (by decide : (24 : Int) ≤ 200), (by decide : (40 : Int) ≤ 200), u1, ↓SP, SQ, SU, stepM, callC, argC, nmBy, stepD, stepW, fz, loadA, cellsA, binA, snap, thaw, fzAll, elemOf, partsA, buildA, putCells, ↓reduceIte, reduceCtorEq, okCell, Nat.reduceAdd, Nat.reduceEqDiff, Nat.reduceSub, Nat.reduceMul, Nat.reduceLeDiff, Nat.reduceLT, Nat.reduceBEq]
        rw [hB]
        refine finA_gen [7] trivial (by simp [retA, rvA, mkE_cons, mk_nil, mkO_cons, mkO_nil, loadA, SV.tr, SV.trL, nmF, rn_nil, rn_cons1, rn_cons2, plainOb, SV.refsL, SV.refs, Ob.refs, X, F, List.range_succ, mkO, setO_mk]; rfl) ?_ ?_ ?_ ?_ ?_ ?_ ?_ <;> simp [retA, rvA, mkE_cons, mk_nil, mkO_cons, mkO_nil, loadA, SV.tr, SV.trL, nmF, rn_nil, rn_cons1, rn_cons2, plainOb, SV.refsL, SV.refs, Ob.refs, X, F, List.range_succ, mkO, setO_mk]
      · have p2' : (pkV l 40 T.2 == 0) = false := by simp [p2]
        have hB : spB l (T.1, T.2) = (T.1, pkC l 40 T.2) := by simp [spB, p2]
        simp only [g1, h_one, c_one, hv, r1, r2, hz2, p2', hln, hap, cuEta, (by decide : (24 : Int) ≤ 200), (by decide : (40 : Int) ≤ 200), u1, ↓SP, SQ, SU, stepM, callC, argC, nmBy, stepD, stepW, fz, loadA, cellsA, binA, snap, thaw, fzAll, elemOf, partsA, buildA, putCells, ↓reduceIte, reduceCtorEq, okCell, Nat.reduceAdd, Nat.reduceEqDiff, Nat.reduceSub, Nat.reduceMul, Nat.reduceLeDiff, Nat.reduceLT, Nat.reduceBEq]
        rw [hB]
        refine finA_gen [7] trivial (by simp [retA, rvA, mkE_cons, mk_nil, mkO_cons, mkO_nil, loadA, SV.tr, SV.trL, nmF, rn_nil, rn_cons1, rn_cons2, plainOb, SV.refsL, SV.refs, Ob.refs, X, F, List.range_succ, mkO, setO_mk]; rfl) ?_ ?_ ?_ ?_ ?_ ?_ ?_ <;> simp [retA, rvA, mkE_cons, mk_nil, mkO_cons, mkO_nil, loadA, SV.tr, SV.trL, nmF, rn_nil, rn_cons1, rn_cons2, plainOb, SV.refsL, SV.refs, Ob.refs, X, F, List.range_succ, mkO, setO_mk]
theorem slU_cells {v : PV} {l : List Int} (h : slU v = some l) : v.cells = [v] := by
  rcases (slU_out h).1 with rfl | ⟨rfl, rfl⟩ <;> rfl
theorem slU_isCell {v : PV} {l : List Int} (h : slU v = some l) : v.isCell = true := by
  rcases (slU_out h).1 with rfl | ⟨rfl, rfl⟩ <;> rfl
theorem cnR_b {l : List Int} (hl : ∀ x ∈ l, 0 ≤ x ∧ x ≤ 255) {c : Cu} (hc : CuA c 0) : (cnR l c).1.length ≤ 6 ∧ CuA (cnR l c).2 10 ∧ ∀ x ∈ (cnR l c).1, -1 ≤ x ∧ x ≤ 9 := by
  have ha1 := hc.pk l 9
  have ha2 := ha1.pk l 7
  have hL : 0 ≤ amV l [4, 6, 8, 3, 7, 2, 5, 1, 0] c ∧ amV l [4, 6, 8, 3, 7, 2, 5, 1, 0] c ≤ 8 := (by decide : ∀ x ∈ ([4, 6, 8, 3, 7, 2, 5, 1, 0] : List Int), 0 ≤ x ∧ x ≤ 8) _ (amV_mem hl hc.1 (by decide))
  have hM : 1 ≤ amV l [2, 2, 1, 3, 2, 3, 1] (pkC l 9 c) ∧ amV l [2, 2, 1, 3, 2, 3, 1] (pkC l 9 c) ≤ 3 := (by decide : ∀ x ∈ ([2, 2, 1, 3, 2, 3, 1] : List Int), 1 ≤ x ∧ x ≤ 3) _ (amV_mem hl ha1.1 (by decide))
  have hcn := cnS_b hl hL.1 ha2 (amV l [2, 2, 1, 3, 2, 3, 1] (pkC l 9 c)).toNat
  unfold cnR cnE
  generalize cnS l (amV l [4, 6, 8, 3, 7, 2, 5, 1, 0] c) (pkC l 7 (pkC l 9 c)) (amV l [2, 2, 1, 3, 2, 3, 1] (pkC l 9 c)).toNat = S at *
  obtain ⟨h1, h2, h3, h4, h5⟩ := hcn
  have h6 : CuA S.2.2 5 := h4.mono (by omega)
  have h7 := h6.pk l 40
  have h5' : ∀ x ∈ S.1, -1 ≤ x ∧ x ≤ 9 := fun x hx => by have := h5 x hx; omega
  split
  · exact ⟨by simp, h7.mono (by omega), by simp⟩
  · split
    · refine ⟨by simp only [List.length_set]; omega, (h7.pk l 3).mono (by omega), fun x hx => ?_⟩
      have hv : -1 ≤ amV l [-1, 9, 8] (pkC l 40 S.2.2) ∧ amV l [-1, 9, 8] (pkC l 40 S.2.2) ≤ 9 := (by decide : ∀ x ∈ ([-1, 9, 8] : List Int), -1 ≤ x ∧ x ≤ 9) _ (amV_mem hl h7.1 (by decide))
      rcases List.mem_or_eq_of_mem_set hx with hx | rfl
      · exact h5' x hx
      · exact hv
    · split
      · refine ⟨by simp only [List.length_append, List.length_cons, List.length_nil]; omega, h7.mono (by omega), fun x hx => ?_⟩
        simp only [List.mem_append, List.mem_cons, List.not_mem_nil, or_false] at hx
        rcases hx with hx | hx
        · exact h5' x hx
        · rcases hx with rfl | rfl | rfl <;> omega
      · exact ⟨by simp only; omega, h7.mono (by omega), h5'⟩
theorem spR_b {l : List Int} (hl : ∀ x ∈ l, 0 ≤ x ∧ x ≤ 255) {c : Cu} {b : Int} (hc : CuA c b) (cs : List Int) (hcs : ∀ x ∈ cs, -1 ≤ x ∧ x ≤ 9) : (spR l cs c).1.length ≤ cs.length + 1 ∧ ∀ x ∈ (spR l cs c).1, -1 ≤ x ∧ x ≤ 100 := by
  obtain ⟨h1, h4, h5⟩ := spS_b hl cs (fun x hx => by have := hcs x hx; omega) hc cs.length (Nat.le_refl _)
  unfold spR
  generalize spS l cs c cs.length = S at *
  have h5' : ∀ x ∈ S.1, -1 ≤ x ∧ x ≤ 100 := fun x hx => by have := h5 x hx; omega
  have hA : (spA l cs S).1.length = cs.length ∧ ∀ x ∈ (spA l cs S).1, -1 ≤ x ∧ x ≤ 100 := by
    unfold spA
    split
    · rename_i hz
      split
      · refine ⟨by simp only [List.length_set]; exact h1, fun x hx => ?_⟩
        have h7 := h4.pk l 24
        have hm := amV_mem hl (xs := [-1, cs.getD 0 0 + 1]) h7.1 (by simp)
        have hx0 := hcs (cs.getD 0 0) (by rw [show cs.getD 0 0 = cs[0] by simp [show 0 < cs.length by omega]]; exact List.getElem_mem _)
        rcases List.mem_or_eq_of_mem_set hx with hx | rfl
        · exact h5' x hx
        · simp only [List.mem_cons, List.not_mem_nil, or_false] at hm
          rcases hm with hm | hm <;> rw [hm] <;> omega
      · exact ⟨h1, h5'⟩
    · exact ⟨h1, h5'⟩
  unfold spB
  simp only
  split
  · refine ⟨by simp only [List.length_append, List.length_cons, List.length_nil]; omega, fun x hx => ?_⟩
    simp only [List.mem_append, List.mem_singleton] at hx
    rcases hx with hx | rfl
    · exact hA.2 x hx
    · omega
  · exact ⟨by omega, hA.2⟩
theorem cu0 (b : Int) (hb : 0 ≤ b) : CuA (0, 0) b := ⟨Int.le_refl _, hb⟩
def a_DrawYesCounts (f_counts : FuncId) (f_split : FuncId) : AFn := ⟨1, 
  .seq (.reg [⟨some 2, none, .d (.mv (.c (.nilsl)))⟩,
    ⟨some 3, none, .d (.mv (.c (.nilsl)))⟩])
  (.seq (.reg [⟨some 6, none, .d (.mv (.t 0))⟩,
    ⟨some 7, none, .d (.build [.nilsl, .int .i64 0, .int .u64 0] [(0, 1, (.t 6))])⟩,
    ⟨some 8, none, .w (.box 3 (.t 7))⟩,
    ⟨some 4, none, .d (.mv (.t 8))⟩])
  (.seq (.reg [⟨some 9, none, .d (.mv (.t 4))⟩,
    ⟨some 10, none, .w (.callL (.f f_counts) [(.t 9)] [8] 1 false)⟩,
    ⟨some 5, none, .d (.mv (.t 10))⟩])
  (.seq (.reg [⟨some 11, none, .d (.mv (.t 5))⟩,
    ⟨some 12, none, .d (.mv (.t 4))⟩,
    ⟨some 13, none, .d (.mv (.t 5))⟩,
    ⟨some 14, none, .w (.callL (.f f_split) [(.t 12), (.t 13)] [8] 1 true)⟩,
    ⟨some 2, none, .d (.mv (.t 11))⟩,
    ⟨some 3, none, .d (.mv (.t 14))⟩])
  (.ret)))), [.tmp 2, .tmp 3]⟩
def n_DrawYesCounts : Nat → Option Ann := fun d => if d = 10 then some ⟨[8], 1, false⟩ else if d = 14 then some ⟨[8], 1, true⟩ else none
abbrev k_DrawYesCounts : List Nat := [0, 2, 3, 4, 5]
abbrev o_DrawYesCounts : List Nat := [8, 10, 14]
def c_DrawYesCounts : Con := pure' fun
  | [.p v] => match slU v with
    | some l => some (.tp [.p (.sl 1 (ints (cnR l (0, 0)).1)), .ar 2000000], [.arr 1 (ints (spR l (cnR l (0, 0)).1 (cnR l (0, 0)).2).1)])
    | none => none
  | _ => none
theorem s_DrawYesCounts {P : Program} (hm : P.follows .mixedOrders = true) {Γ : Gam} (hΓ : GS P Γ) {n : FuncId} {f_counts : FuncId} {f_split : FuncId} (is : Is P n (a_DrawYesCounts f_counts f_split)) (h_counts : Γ f_counts = c_counts) (h_split : Γ f_split = c_split)  : Says P n c_DrawYesCounts := by
  refine Says.pure fun args r fs h => ?_
  split at h
  case h_2 => cases h
  rename_i v
  split at h
  case h_2 => cases h
  rename_i l hv
  simp only [Option.some.injEq, Prod.mk.injEq] at h
  obtain ⟨rfl, rfl⟩ := h
  have hl := (slU_out hv).2
  have hvc := slU_cells hv
  have hvi := slU_isCell hv
  obtain ⟨b1, b2, b3⟩ := cnR_b hl (cu0 0 (by omega))
  have r1 := b2.1
  have r2 : (cnR l (0, 0)).2.1 ≤ 500 := by have := b2.2; omega
  have hb1 : (cnR l (0, 0)).1.length ≤ 50 := by omega
  have hb2 : ∀ x ∈ (cnR l (0, 0)).1, -100 ≤ x ∧ x ≤ 100 := fun x hx => by have := b3 x hx; omega
  have hb3 := eq_true hb2
  refine is.go hm hΓ k_DrawYesCounts o_DrawYesCounts (by simp [a_DrawYesCounts]) ?_
  simp only [a_DrawYesCounts, h_counts, c_counts, h_split, c_split, hv, hvc, hvi, r1, r2, hb1, hb3, cuEta, Int.le_refl, (by decide : (0 : Int) ≤ 900), List.zipIdx_cons, List.zipIdx_nil, ↓SP, SQ, SU, stepM, callC, argC, nmBy, stepD, stepW, fz, loadA, cellsA, binA, snap, thaw, fzAll, elemOf, partsA, buildA, putCells, ↓reduceIte, reduceCtorEq, okCell, Nat.reduceAdd, Nat.reduceEqDiff, Nat.reduceSub, Nat.reduceMul, Nat.reduceLeDiff, Nat.reduceLT, Nat.reduceBEq]
  refine finA_gen [14] trivial (by simp [retA, rvA, mkE_cons, mk_nil, mkO_cons, mkO_nil, loadA, SV.tr, SV.trL, nmF, rn_nil, rn_cons1, rn_cons2, plainOb, SV.refsL, SV.refs, Ob.refs, X, F, List.range_succ, mkO, setO_mk]; rfl) ?_ ?_ ?_ ?_ ?_ ?_ ?_ <;> simp [hvc, retA, rvA, mkE_cons, mk_nil, mkO_cons, mkO_nil, loadA, SV.tr, SV.trL, nmF, rn_nil, rn_cons1, rn_cons2, plainOb, SV.refsL, SV.refs, Ob.refs, X, F, List.range_succ, mkO, setO_mk]
def a_DrawSplitNeed (f_DrawYesCounts : FuncId) : AFn := ⟨1, 
  .seq (.reg [⟨some 2, none, .d (.mv (.c (.nilsl)))⟩,
    ⟨some 3, none, .d (.mv (.c (.nilsl)))⟩])
  (.seq (.reg [⟨some 4, none, .d (.mv (.t 0))⟩,
    ⟨some 5, none, .d (.call (.f f_DrawYesCounts) [(.t 4)])⟩,
    ⟨some 6, none, .d (.extract (.t 5) 0)⟩,
    ⟨some 7, none, .d (.extract (.t 5) 1)⟩,
    ⟨some 2, none, .d (.mv (.t 6))⟩,
    ⟨some 3, none, .d (.mv (.t 7))⟩])
  (.ret)), [.tmp 2, .tmp 3]⟩
def n_DrawSplitNeed : Nat → Option Ann := fun _ => none
abbrev k_DrawSplitNeed : List Nat := [0, 2, 3]
abbrev o_DrawSplitNeed : List Nat := []
def c_DrawSplitNeed : Con := pure' fun
  | [.p v] => match slU v with
    | some l => some (.tp [.p (.sl 1 (ints (cnR l (0, 0)).1)), .p (.sl 1 (ints (spR l (cnR l (0, 0)).1 (cnR l (0, 0)).2).1))], [])
    | none => none
  | _ => none
theorem s_DrawSplitNeed {P : Program} (hm : P.follows .mixedOrders = true) {Γ : Gam} (hΓ : GS P Γ) {n : FuncId} {f_DrawYesCounts : FuncId} (is : Is P n (a_DrawSplitNeed f_DrawYesCounts)) (h_DrawYesCounts : Γ f_DrawYesCounts = c_DrawYesCounts)  : Says P n c_DrawSplitNeed := by
  refine Says.pure fun args r fs h => ?_
  split at h
  case h_2 => cases h
  rename_i v
  split at h
  case h_2 => cases h
  rename_i l hv
  simp only [Option.some.injEq, Prod.mk.injEq] at h
  obtain ⟨rfl, rfl⟩ := h
  refine is.go hm hΓ k_DrawSplitNeed o_DrawSplitNeed (by simp [a_DrawSplitNeed]) ?_
  simp only [a_DrawSplitNeed, h_DrawYesCounts, c_DrawYesCounts, hv, List.zipIdx_cons, List.zipIdx_nil, ↓SP, SQ, SU, stepM, callC, argC, nmBy, stepD, stepW, fz, loadA, cellsA, binA, snap, thaw, fzAll, elemOf, partsA, buildA, putCells, ↓reduceIte, reduceCtorEq, okCell, Nat.reduceAdd, Nat.reduceEqDiff, Nat.reduceSub, Nat.reduceMul, Nat.reduceLeDiff, Nat.reduceLT, Nat.reduceBEq]
  exact finA_val (by simp [retA, rvA, mkE_cons, mk_nil, mkO_cons, mkO_nil, loadA, SV.tr, SV.trL, nmF, rn_nil, rn_cons1, rn_cons2, plainOb, SV.refsL, SV.refs, Ob.refs, X, F, List.range_succ, mkO, setO_mk]) (by simp [SV.tr, SV.trL])
def a_rBig : AFn := ⟨1, 
  .seq (.reg [⟨some 2, none, .d (.mv (.c (.bool false)))⟩])
  (.seq (.reg [⟨some 3, none, .d (.mv (.t 0))⟩,
    ⟨some 4, none, .d (.len (.t 3))⟩,
    ⟨some 5, none, .d (.bin .arith .gtr (.t 4) (.c (.int .i64 65536)))⟩,
    ⟨some 2, none, .d (.mv (.t 5))⟩])
  (.ret)), [.tmp 2]⟩
def n_rBig : Nat → Option Ann := fun _ => none
abbrev k_rBig : List Nat := [0, 2]
abbrev o_rBig : List Nat := []
abbrev By := {n : Int // 0 ≤ n ∧ n ≤ 255}
instance : Inhabited By := ⟨⟨0, by omega⟩⟩
def byE (n : By) : PV := .int .u8 n.1
theorem slU_bys (l : List By) : slU (.sl 1 (l.map byE)) = some (l.map Subtype.val) := by
  have h1 : (l.map byE).all isU = true := by
    simp only [List.all_map, List.all_eq_true, Function.comp_def, byE, isU]
    intro x _
    have := x.2
    simp [this.1, this.2]
  simp only [slU, h1, if_true]
  simp [ofU, byE, Function.comp_def]
theorem open_bytes' {H : Type} {enc : TypeId × Value → H} {P : Program} {W : World} {sp : Nat → Bool} {b0 : Nat} {t e : TypeId} (ht : P.underlying t = some (.slice e)) (he : P.underlying e = some (.int .u8)) (hc : P.cellsOf e = 1) {v : Value} {fuel : Nat} {x : DataW H × List MemPlace} (hval : Cell.okWide P W .any b0 t v)
    (h : DataW.trod enc P W 0 sp true fuel t [v] = some x) : ∃ (pv : PV) (l : List Int), slU pv = some l ∧ l.length ≤ 9223372036854775807 ∧ PR W (All W) pv v := by
  rcases open_sl (α := By) (φ := byE) (fun _ => rfl) ht hc (fun cs y n hy hcl => by
    obtain ⟨c, rfl⟩ : ∃ c, cs = [c] := List.length_eq_one_iff.1 hcl
    obtain ⟨m, h1, _, w⟩ := DataW.trod_int he hy
    injection h1 with h1; subst h1
    simp only [Lit.wf, Bool.and_eq_true, decide_eq_true_eq] at w
    have w1 : (0 : Int) ≤ m := w.1
    have w2 : m ≤ 255 := w.2
    exact ⟨⟨m, w1, w2⟩, fun i hi => by simp [byE, PV.cells] at hi; subst hi; exact .int _ _⟩) hval h with ⟨l, hl, hp⟩ | hv
  · exact ⟨.sl 1 (l.map byE), l.map Subtype.val, slU_bys l, by simpa using hl, hp⟩
  · exact ⟨.nilsl, [], rfl, by simp, by rw [hv]; exact .nilsl⟩
theorem open_bytesV {H : Type} {enc : TypeId × Value → H} {P : Program} {W : World} {sp : Nat → Bool} {b0 : Nat} {t e : TypeId} (ht : P.underlying t = some (.slice e)) (he : P.underlying e = some (.int .u8)) (hc : P.cellsOf e = 1) {v : Value} {d : DataW H} {p : List MemPlace} (hv : Value.okWide P W .any b0 t v)
    (h : DataW.Trod enc P W 0 sp true t v d p) : ∃ (pv : PV) (l : List Int), slU pv = some l ∧ l.length ≤ 9223372036854775807 ∧ PR W (All W) pv v := by
  obtain ⟨fuel, hf⟩ := trod_slice_cells ht hv h
  exact open_bytes' ht he hc (cell_slice ht hv) hf
def c_rBig : Con := pure' fun
  | [.p v] => match slU v with
    | some l => some (.p (.bool (decide (l.length > 65536))), [])
    | none => none
  | _ => none
theorem slU_len {v : PV} {l : List Int} (h : slU v = some l) (O : Objs) : lenA O (.p v) = some l.length := by
  rcases (slU_out h).1 with rfl | ⟨rfl, rfl⟩
  · simp [lenA, u8s_len]
  · simp [lenA]
theorem s_rBig {P : Program} (hm : P.follows .mixedOrders = true) {Γ : Gam} (hΓ : GS P Γ) {n : FuncId} (is : Is P n a_rBig)  : Says P n c_rBig := by
  refine Says.pure fun args r fs h => ?_
  split at h
  case h_2 => cases h
  rename_i v
  split at h
  case h_2 => cases h
  rename_i l hv
  simp only [Option.some.injEq, Prod.mk.injEq] at h
  obtain ⟨rfl, rfl⟩ := h
  have hlv := slU_len hv
  by_cases hk : l.length > 65536
  · have h2 : (l.length : Int) > 65536 := by omega
    refine is.go hm hΓ k_rBig o_rBig (by simp [a_rBig]) ?_
    simp only [a_rBig, hlv, h2, List.zipIdx_cons, List.zipIdx_nil, ↓SP, SQ, SU, stepM, callC, argC, nmBy, stepD, stepW, fz, loadA, cellsA, binA, snap, thaw, fzAll, elemOf, partsA, buildA, putCells, ↓reduceIte, reduceCtorEq, okCell, Nat.reduceAdd, Nat.reduceEqDiff, Nat.reduceSub, Nat.reduceMul, Nat.reduceLeDiff, Nat.reduceLT, Nat.reduceBEq]
    exact finA_val (by simp [hk, retA, rvA, mkE_cons, mk_nil, mkO_cons, mkO_nil, loadA, SV.tr, SV.trL, nmF, rn_nil, rn_cons1, rn_cons2, plainOb, SV.refsL, SV.refs, Ob.refs, X, F, List.range_succ, mkO, setO_mk]) (by simp [SV.tr, SV.trL])
  · have h2 : ¬ (l.length : Int) > 65536 := by omega
    refine is.go hm hΓ k_rBig o_rBig (by simp [a_rBig]) ?_
    simp only [a_rBig, hlv, h2, List.zipIdx_cons, List.zipIdx_nil, ↓SP, SQ, SU, stepM, callC, argC, nmBy, stepD, stepW, fz, loadA, cellsA, binA, snap, thaw, fzAll, elemOf, partsA, buildA, putCells, ↓reduceIte, reduceCtorEq, okCell, Nat.reduceAdd, Nat.reduceEqDiff, Nat.reduceSub, Nat.reduceMul, Nat.reduceLeDiff, Nat.reduceLT, Nat.reduceBEq]
    exact finA_val (by simp [hk, retA, rvA, mkE_cons, mk_nil, mkO_cons, mkO_nil, loadA, SV.tr, SV.trL, nmF, rn_nil, rn_cons1, rn_cons2, plainOb, SV.refsL, SV.refs, Ob.refs, X, F, List.range_succ, mkO, setO_mk]) (by simp [SV.tr, SV.trL])
theorem slI_e : slI (.sl 1 []) = some [] := rfl
theorem nt_OB : (allT.all fun t => decide (ntT tabO t ≤ ntT tabB t)) = true := by decide +kernel
theorem nd_OB {c : List Int} (hc : okC c = true) : ndI false c ≤ ndI true c := by
  have := List.all_eq_true.1 nt_OB _ (okC_pad hc)
  simp only [decide_eq_true_eq] at this
  have a1 : ndI true c = (ntT tabB (pad3 c) : Int) := rfl
  have a2 : ndI false c = (ntT tabO (pad3 c) : Int) := rfl
  rw [a1, a2]; omega
theorem nd_told {c : List Int} (hc : okC c = true) (hu : told c = true) : ndI false c = 0 := by
  obtain ⟨⟨l1, l3⟩, h8, hsum⟩ := okC_out hc
  have hk := keyN_bd (p := c.length) rfl h8
  have hdg := dg_key (p := c.length) rfl l3 h8
  have := (zero_told (okP_O l1 l3) hk.2 (by rw [hdg]; exact hsum)).2 (by rw [hdg]; exact hu)
  rw [hdg] at this
  have a2 : ndI false c = (ntT tabO (pad3 c) : Int) := rfl
  rw [a2, this]; rfl
theorem hd_need {c : List Int} (hc : okC c = true) (hu : told c = false) : ndI false c = 1 + mxI (ndI false (hdS c)) (ndI false (noL c (hdS c))) := by
  have h := HD.of hc hu
  have hhd : hdS c ∈ beS false c := by rw [hdS, getD_lt h.len]; exact List.getElem_mem h.len
  have hp := (List.mem_filter.1 hhd).2
  have hyb : yb false c (hdS c) = hdS c := rfl
  simp only [beP, hyb, decide_eq_true_eq] at hp
  exact hp.symm
theorem pth_need : ∀ f c, okC c = true → (ndI false c).toNat < f → (pthF f c).1 ≤ (pthF f c).2 ∧ (pthF f c).2 = ndI false c
  | 0, _, _, h => by omega
  | f + 1, c, hc, hf => by
    rw [pthF_succ]
    cases hu : told c with
    | true => simp only [if_true]; rw [nd_told hc hu]; exact ⟨Int.le_refl _, rfl⟩
    | false =>
      have h := HD.of hc hu
      have n0 := (ndI_bd false h.ok1).1
      have n1 := (ndI_bd false h.ok2).1
      have l1 := h.lt1
      have l2 := h.lt2
      obtain ⟨a1, a2⟩ := pth_need f _ h.ok1 (by omega)
      obtain ⟨b1, b2⟩ := pth_need f _ h.ok2 (by omega)
      simp only [Bool.false_eq_true, if_false]
      rw [a2, b2, hd_need hc hu]
      refine ⟨?_, rfl⟩
      rw [a2] at a1
      rw [b2] at b1
      simp only [mnI, mxI]
      split <;> split <;> omega
theorem pth_all {c : List Int} (hc : okC c = true) : (pth c).1 ≤ (pth c).2 ∧ (pth c).2 = ndI false c := by
  have := ndI_bd false hc
  exact pth_need 11 c hc (by omega)
theorem moF_top {g : Nat → Int} {q : Int} (h1 : g 1 ≤ q) : ∀ N, 2 ≤ N → ∃ n : Nat, moF g q N = n ∧ 1 ≤ n ∧ n < N ∧ g n ≤ q ∧ ∀ k, n < k → k < N → q < g k
  | 0, h => by omega
  | 1, h => by omega
  | 2, _ => ⟨1, by simp [moF, h1], by omega, by omega, h1, fun k a b => by omega⟩
  | N + 3, _ => by
    simp only [moF]
    by_cases hq : g (N + 2) ≤ q
    · rw [if_pos hq]
      exact ⟨N + 2, rfl, by omega, by omega, hq, fun k a b => by omega⟩
    · rw [if_neg hq]
      obtain ⟨n, e, a, b, c, d⟩ := moF_top h1 (N + 2) (by omega)
      simp only [moF] at e
      refine ⟨n, e, a, by omega, c, fun k h2 h3 => ?_⟩
      by_cases hk : k = N + 2
      · subst hk; omega
      · exact d k h2 (by omega)
theorem taF_get {g : Nat → Int} {n k : Nat} (h : k < n) : (taF g n).getD k 0 = g (k + 1) := by
  simp [taF, h]
def a_OneWaySplit (f_isUntold : FuncId) (f_neederOf : FuncId) (f_oneWay : FuncId) (f_nBest : FuncId) : AFn := ⟨1, 
  .seq (.reg [⟨some 2, none, .d (.mv (.c (.nilsl)))⟩,
    ⟨some 3, none, .d (.mv (.c (.bool false)))⟩])
  (.seq (.seq (.reg [⟨some 4, none, .d (.mv (.t 0))⟩,
    ⟨some 5, none, .d (.call (.f f_isUntold) [(.t 4)])⟩,
    ⟨some 6, none, .d (.not (.t 5))⟩])
  (.cond (.t 6) (.seq (.reg [⟨some 2, none, .d (.mv (.c (.nilsl)))⟩,
     ⟨some 3, none, .d (.mv (.c (.bool false)))⟩])
   (.ret)) (.skip)))
  (.seq (.reg [⟨some 7, none, .d (.call (.f f_neederOf) [(.f f_oneWay)])⟩,
    ⟨some 8, none, .d (.mv (.t 0))⟩,
    ⟨some 9, none, .d (.call (.f f_nBest) [(.t 7), (.t 8)])⟩,
    ⟨some 10, none, .d (.ia 1 (.t 9) (.c (.int .i64 0)))⟩,
    ⟨some 11, none, .d (.load false 1 (.t 10))⟩,
    ⟨some 2, none, .d (.mv (.t 11))⟩,
    ⟨some 3, none, .d (.mv (.c (.bool true)))⟩])
  (.ret))), [.tmp 2, .tmp 3]⟩
def n_OneWaySplit : Nat → Option Ann := fun _ => none
abbrev k_OneWaySplit : List Nat := [0, 2, 3, 6]
abbrev o_OneWaySplit : List Nat := []
def a_s_OneWaySplit (f_l4Counts : FuncId) (f_l4Told : FuncId) (f_l10Needs : FuncId) (f_l4Key : FuncId) (f_l10Best : FuncId) (f_l1Own : FuncId) : AFn := ⟨1, 
  .seq (.reg [⟨some 2, none, .d (.mv (.c (.nilsl)))⟩,
    ⟨some 3, none, .d (.mv (.c (.bool false)))⟩])
  (.seq (.seq (.reg [⟨some 5, none, .d (.mv (.t 0))⟩,
    ⟨some 6, none, .d (.call (.f f_l4Counts) [(.t 5)])⟩,
    ⟨some 7, none, .d (.not (.t 6))⟩,
    ⟨some 8, none, .d (.mv (.t 7))⟩,
    ⟨some 9, some (8, false), .d (.mv (.t 0))⟩,
    ⟨some 10, some (8, false), .d (.call (.f f_l4Told) [(.t 9)])⟩,
    ⟨some 11, none, .d (.pick (.t 8) (.c (.bool true)) (.t 10))⟩])
  (.cond (.t 11) (.seq (.reg [⟨some 12, none, .w (.bslice 1 [] [])⟩,
     ⟨some 2, none, .d (.mv (.t 12))⟩,
     ⟨some 3, none, .d (.mv (.c (.bool false)))⟩])
   (.ret)) (.skip)))
  (.seq (.reg [⟨some 13, none, .d (.mv (.t 0))⟩,
    ⟨some 14, none, .d (.len (.t 13))⟩,
    ⟨some 15, none, .d (.call (.f f_l10Needs) [(.t 14)])⟩,
    ⟨some 4, none, .d (.mv (.t 15))⟩])
  (.seq (.reg [⟨some 16, none, .d (.mv (.t 0))⟩,
    ⟨some 17, none, .d (.mv (.t 4))⟩,
    ⟨some 18, none, .d (.mv (.t 4))⟩,
    ⟨some 19, none, .d (.mv (.t 0))⟩,
    ⟨some 20, none, .d (.call (.f f_l4Key) [(.t 19)])⟩,
    ⟨some 21, none, .d (.ia 1 (.t 18) (.t 20))⟩,
    ⟨some 22, none, .d (.load false 1 (.t 21))⟩,
    ⟨some 23, none, .d (.call (.f f_l10Best) [(.t 16), (.t 17), (.t 22)])⟩,
    ⟨some 24, none, .d (.call (.f f_l1Own) [(.t 23)])⟩,
    ⟨some 2, none, .d (.mv (.t 24))⟩,
    ⟨some 3, none, .d (.mv (.c (.bool true)))⟩])
  (.ret)))), [.tmp 2, .tmp 3]⟩
def n_s_OneWaySplit : Nat → Option Ann := fun _ => none
abbrev k_s_OneWaySplit : List Nat := [0, 2, 3, 4, 11]
abbrev o_s_OneWaySplit : List Nat := [12]
def c_OneWaySplit : Con := pure' fun
  | [.p (.sl 1 c_)] => if isI c_ = true ∧ ((ofI c_).length ≤ 1100000) then some (.tp [.p (if (okC (ofI c_) && !told (ofI c_)) = true then .sl 1 (ints (hdS (ofI c_))) else .nilsl), .p (.bool (okC (ofI c_) && !told (ofI c_)))], []) else none
  | _ => none
def c_s_OneWaySplit : Con := pure' fun
  | [.p (.sl 1 c_)] => if isI c_ = true ∧ ((ofI c_).length ≤ 1100000) then some (.tp [if (okC (ofI c_) && !told (ofI c_)) = true then .p (.sl 1 (ints (hdS (ofI c_)))) else .ar 2000000, .p (.bool (okC (ofI c_) && !told (ofI c_)))], if (okC (ofI c_) && !told (ofI c_)) = true then [] else [.arr 1 []]) else none
  | _ => none
theorem s_OneWaySplit {P : Program} (hm : P.follows .mixedOrders = true) {Γ : Gam} (hΓ : GS P Γ) {n : FuncId} {f_isUntold : FuncId} {f_neederOf : FuncId} {f_oneWay : FuncId} {f_nBest : FuncId} (is : Is P n (a_OneWaySplit f_isUntold f_neederOf f_oneWay f_nBest)) (h_isUntold : Γ f_isUntold = c_isUntold) {Γ1 Γ2 : Gam} (h_neederOf : Γ f_neederOf = c_neederOf Γ1) (h_oneWay : Γ1 f_oneWay = c_oneWay) (h_nBest : Γ f_nBest = c_nBest Γ2) (h_oneWay2 : Γ2 f_oneWay = c_oneWay) : Says P n c_OneWaySplit := by
  refine Says.pure fun args r fs h => ?_
  split at h
  case h_2 => cases h
  rename_i c_
  split at h
  case isFalse => cases h
  rename_i hc
  obtain ⟨hc_, hc⟩ := hc
  obtain ⟨c, rfl⟩ := isI_out hc_
  simp only [ofI_ints, ofBo_bools, ofAs_asks, Option.some.injEq, Prod.mk.injEq] at h hc
  obtain ⟨rfl, rfl⟩ := h
  cases h1 : (okC c && !told c) with
  | false =>
    refine is.go hm hΓ k_OneWaySplit o_OneWaySplit (by simp [a_OneWaySplit]) ?_
    simp only [a_OneWaySplit, h_isUntold, c_isUntold, hc, h1, Bool.false_eq_true, List.zipIdx_cons, List.zipIdx_nil, ↓SP, SQ, SU, stepM, callC, argC, nmBy, stepD, stepW, fz, loadA, cellsA, binA, snap, thaw, fzAll, elemOf, partsA, buildA, putCells, ↓reduceIte, reduceCtorEq, okCell, Nat.reduceAdd, Nat.reduceEqDiff, Nat.reduceSub, Nat.reduceMul, Nat.reduceLeDiff, Nat.reduceLT, Nat.reduceBEq]
    exact finA_val (by simp [retA, rvA, mkE_cons, mk_nil, mkO_cons, mkO_nil, loadA, SV.tr, SV.trL, nmF, rn_nil, rn_cons1, rn_cons2, plainOb, SV.refsL, SV.refs, Ob.refs, X, F, List.range_succ, mkO, setO_mk]) (by simp [SV.tr, SV.trL])
  | true =>
    have hok : okC c = true := by simp only [Bool.and_eq_true] at h1; exact h1.1
    have hu : told c = false := by simp only [Bool.and_eq_true, Bool.not_eq_true'] at h1; exact h1.2
    have hne := neederOf_one h_oneWay
    have hE := okE_nES false
    have hr : isRule Γ2 f_oneWay false := by simpa [isRule] using h_oneWay2
    have hbl := beL_nES hr hok hu
    have hba := be_any hr hok hu
    have htk := sls_app_take (beS false c) (List.replicate ((splL c).length - (beS false c).length) .nilsl)
    have hln := (HD.of hok hu).len
    have hg := sls_get hln
    have hgd : (beS false c).getD 0 [] = hdS c := rfl
    rw [hgd] at hg
    refine is.go hm hΓ k_OneWaySplit o_OneWaySplit (by simp [a_OneWaySplit]) ?_
    simp only [a_OneWaySplit, h_isUntold, c_isUntold, hc, h1, hok, hu, h_neederOf, hne, h_nBest, c_nBest, h_oneWay2, or_true, hE, hok, hbl, hba, htk, hln, hg, sls_len, Nat.sub_zero, List.drop_zero, isI_ints, ofI_ints, ints_len, Bool.not_false, Bool.not_true, Bool.false_eq_true, Int.le_refl, Int.reduceToNat, List.zipIdx_cons, List.zipIdx_nil, ↓SP, SQ, SU, stepM, callC, argC, nmBy, stepD, stepW, fz, loadA, cellsA, binA, snap, thaw, fzAll, elemOf, partsA, buildA, putCells, ↓reduceIte, reduceCtorEq, okCell, Nat.reduceAdd, Nat.reduceEqDiff, Nat.reduceSub, Nat.reduceMul, Nat.reduceLeDiff, Nat.reduceLT, Nat.reduceBEq]
    exact finA_val (by simp [retA, rvA, mkE_cons, mk_nil, mkO_cons, mkO_nil, loadA, SV.tr, SV.trL, nmF, rn_nil, rn_cons1, rn_cons2, plainOb, SV.refsL, SV.refs, Ob.refs, X, F, List.range_succ, mkO, setO_mk]) (by simp [SV.tr, SV.trL])
theorem s_s_OneWaySplit {P : Program} (hm : P.follows .mixedOrders = true) {Γ : Gam} (hΓ : GS P Γ) {n : FuncId} {f_l4Counts : FuncId} {f_l4Told : FuncId} {f_l10Needs : FuncId} {f_l4Key : FuncId} {f_l10Best : FuncId} {f_l1Own : FuncId} (is : Is P n (a_s_OneWaySplit f_l4Counts f_l4Told f_l10Needs f_l4Key f_l10Best f_l1Own)) (h_l4Counts : Γ f_l4Counts = c_AreCounts) (h_l4Told : Γ f_l4Told = c_isTold) (h_l10Needs : Γ f_l10Needs = c_l10Needs) (h_l4Key : Γ f_l4Key = c_l4Key) (h_l10Best : Γ f_l10Best = c_l10Best) (h_l1Own : Γ f_l1Own = c_Clone)  : Says P n c_s_OneWaySplit := by
  refine Says.pure fun args r fs h => ?_
  split at h
  case h_2 => cases h
  rename_i c_
  split at h
  case isFalse => cases h
  rename_i hc
  obtain ⟨hc_, hc⟩ := hc
  obtain ⟨c, rfl⟩ := isI_out hc_
  simp only [ofI_ints, ofBo_bools, ofAs_asks, Option.some.injEq, Prod.mk.injEq] at h hc
  obtain ⟨rfl, rfl⟩ := h
  cases h1 : okC c with
  | false =>
    refine is.go hm hΓ k_s_OneWaySplit o_s_OneWaySplit (by simp [a_s_OneWaySplit]) ?_
    simp only [a_s_OneWaySplit, h_l4Counts, c_AreCounts, h_l4Told, c_isTold, h_l10Needs, c_l10Needs, h_l4Key, c_l4Key, h_l10Best, c_l10Best, h_l1Own, c_Clone, hc, h1, Bool.false_and, Bool.false_eq_true, List.zipIdx_cons, List.zipIdx_nil, ↓SP, SQ, SU, stepM, callC, argC, nmBy, stepD, stepW, fz, loadA, cellsA, binA, snap, thaw, fzAll, elemOf, partsA, buildA, putCells, ↓reduceIte, reduceCtorEq, okCell, Nat.reduceAdd, Nat.reduceEqDiff, Nat.reduceSub, Nat.reduceMul, Nat.reduceLeDiff, Nat.reduceLT, Nat.reduceBEq]
    refine finA_gen [12] trivial (by simp [retA, rvA, mkE_cons, mk_nil, mkO_cons, mkO_nil, loadA, SV.tr, SV.trL, nmF, rn_nil, rn_cons1, rn_cons2, plainOb, SV.refsL, SV.refs, Ob.refs, X, F, List.range_succ, mkO, setO_mk]; rfl) ?_ ?_ ?_ ?_ ?_ ?_ ?_ <;> simp [ints, retA, rvA, mkE_cons, mk_nil, mkO_cons, mkO_nil, loadA, SV.tr, SV.trL, nmF, rn_nil, rn_cons1, rn_cons2, plainOb, SV.refsL, SV.refs, Ob.refs, X, F, List.range_succ, mkO, setO_mk]
  | true =>
    obtain ⟨⟨l1, l3⟩, h8, _⟩ := okC_out h1
    cases h2 : told c with
    | true =>
      refine is.go hm hΓ k_s_OneWaySplit o_s_OneWaySplit (by simp [a_s_OneWaySplit]) ?_
      simp only [a_s_OneWaySplit, h_l4Counts, c_AreCounts, h_l4Told, c_isTold, h_l10Needs, c_l10Needs, h_l4Key, c_l4Key, h_l10Best, c_l10Best, h_l1Own, c_Clone, hc, h1, h2, l3, h8, Bool.not_true, Bool.and_false, Bool.false_eq_true, List.zipIdx_cons, List.zipIdx_nil, ↓SP, SQ, SU, stepM, callC, argC, nmBy, stepD, stepW, fz, loadA, cellsA, binA, snap, thaw, fzAll, elemOf, partsA, buildA, putCells, ↓reduceIte, reduceCtorEq, okCell, Nat.reduceAdd, Nat.reduceEqDiff, Nat.reduceSub, Nat.reduceMul, Nat.reduceLeDiff, Nat.reduceLT, Nat.reduceBEq]
      refine finA_gen [12] trivial (by simp [retA, rvA, mkE_cons, mk_nil, mkO_cons, mkO_nil, loadA, SV.tr, SV.trL, nmF, rn_nil, rn_cons1, rn_cons2, plainOb, SV.refsL, SV.refs, Ob.refs, X, F, List.range_succ, mkO, setO_mk]; rfl) ?_ ?_ ?_ ?_ ?_ ?_ ?_ <;> simp [ints, retA, rvA, mkE_cons, mk_nil, mkO_cons, mkO_nil, loadA, SV.tr, SV.trL, nmF, rn_nil, rn_cons1, rn_cons2, plainOb, SV.refsL, SV.refs, Ob.refs, X, F, List.range_succ, mkO, setO_mk]
    | false =>
      have hD := HD.of h1 h2
      have hfnd := hD.fnd
      have hokw := okw_of h1 h2
      have hl := spl_len hD.mem
      have hll : (hdS c).length ≤ 1100000 := by omega
      have l1' : (1 : Int) ≤ c.length := by omega
      have l3' : (c.length : Int) ≤ 3 := by omega
      have htl := tabK_len (ntT tabO) c.length 6
      obtain ⟨k0, k1⟩ := keyN_bd (p := c.length) rfl h8
      have hkk : (keyL c).toNat = keyN c := rfl
      have hg := ints_get (l := tabK (ntT tabO) c.length 6) (i := keyN c) (by rw [tabK_len]; exact k1)
      have htn := (tab_nd h1).2
      rw [htn] at hg
      refine is.go hm hΓ k_s_OneWaySplit o_s_OneWaySplit (by simp [a_s_OneWaySplit]) ?_
      simp only [a_s_OneWaySplit, h_l4Counts, c_AreCounts, h_l4Told, c_isTold, h_l10Needs, c_l10Needs, h_l4Key, c_l4Key, h_l10Best, c_l10Best, h_l1Own, c_Clone, hc, h1, h2, l3, h8, l1', l3', htl, k0, hkk, hg, hokw, hfnd, hll, Int.toNat_natCast, isI_ints, ofI_ints, ints_len, Bool.not_false, Bool.and_self, List.zipIdx_cons, List.zipIdx_nil, ↓SP, SQ, SU, stepM, callC, argC, nmBy, stepD, stepW, fz, loadA, cellsA, binA, snap, thaw, fzAll, elemOf, partsA, buildA, putCells, ↓reduceIte, reduceCtorEq, okCell, Nat.reduceAdd, Nat.reduceEqDiff, Nat.reduceSub, Nat.reduceMul, Nat.reduceLeDiff, Nat.reduceLT, Nat.reduceBEq]
      exact finA_val (by simp [retA, rvA, mkE_cons, mk_nil, mkO_cons, mkO_nil, loadA, SV.tr, SV.trL, nmF, rn_nil, rn_cons1, rn_cons2, plainOb, SV.refsL, SV.refs, Ob.refs, X, F, List.range_succ, mkO, setO_mk]) (by simp [SV.tr, SV.trL])
def a_DrawAreCounts (f_counts : FuncId) : AFn := ⟨1, 
  .seq (.reg [⟨some 2, none, .d (.mv (.c (.nilsl)))⟩])
  (.seq (.reg [⟨some 4, none, .d (.mv (.t 0))⟩,
    ⟨some 5, none, .d (.build [.nilsl, .int .i64 0, .int .u64 0] [(0, 1, (.t 4))])⟩,
    ⟨some 6, none, .w (.box 3 (.t 5))⟩,
    ⟨some 3, none, .d (.mv (.t 6))⟩])
  (.seq (.reg [⟨some 7, none, .d (.mv (.t 3))⟩,
    ⟨some 8, none, .w (.callL (.f f_counts) [(.t 7)] [6] 1 false)⟩,
    ⟨some 2, none, .d (.mv (.t 8))⟩])
  (.ret))), [.tmp 2]⟩
def n_DrawAreCounts : Nat → Option Ann := fun d => if d = 8 then some ⟨[6], 1, false⟩ else none
abbrev k_DrawAreCounts : List Nat := [0, 2, 3]
abbrev o_DrawAreCounts : List Nat := [6, 8]
def a_DrawOneWayNeed (f_DrawAreCounts : FuncId) : AFn := ⟨1, 
  .seq (.reg [⟨some 2, none, .d (.mv (.c (.nilsl)))⟩])
  (.seq (.reg [⟨some 3, none, .d (.mv (.t 0))⟩,
    ⟨some 4, none, .d (.call (.f f_DrawAreCounts) [(.t 3)])⟩,
    ⟨some 2, none, .d (.mv (.t 4))⟩])
  (.ret)), [.tmp 2]⟩
def n_DrawOneWayNeed : Nat → Option Ann := fun _ => none
abbrev k_DrawOneWayNeed : List Nat := [0, 2]
abbrev o_DrawOneWayNeed : List Nat := []
def a_DrawNeedTable (f_lies : FuncId) : AFn := ⟨1, 
  .seq (.reg [⟨some 2, none, .d (.mv (.c (.int .i64 0)))⟩])
  (.seq (.reg [⟨some 4, none, .d (.mv (.t 0))⟩,
    ⟨some 5, none, .d (.build [.nilsl, .int .i64 0, .int .u64 0] [(0, 1, (.t 4))])⟩,
    ⟨some 6, none, .w (.box 3 (.t 5))⟩,
    ⟨some 3, none, .d (.mv (.t 6))⟩])
  (.seq (.reg [⟨some 7, none, .d (.mv (.t 3))⟩,
    ⟨some 8, none, .w (.callL (.f f_lies) [(.t 7)] [6] 0 false)⟩,
    ⟨some 2, none, .d (.mv (.t 8))⟩])
  (.ret))), [.tmp 2]⟩
def n_DrawNeedTable : Nat → Option Ann := fun d => if d = 8 then some ⟨[6], 0, false⟩ else none
abbrev k_DrawNeedTable : List Nat := [0, 2, 3]
abbrev o_DrawNeedTable : List Nat := [6]
def a_DrawOneWayTable (f_DrawNeedTable : FuncId) : AFn := ⟨1, 
  .seq (.reg [⟨some 2, none, .d (.mv (.c (.int .i64 0)))⟩])
  (.seq (.reg [⟨some 3, none, .d (.mv (.t 0))⟩,
    ⟨some 4, none, .d (.call (.f f_DrawNeedTable) [(.t 3)])⟩,
    ⟨some 2, none, .d (.mv (.t 4))⟩])
  (.ret)), [.tmp 2]⟩
def n_DrawOneWayTable : Nat → Option Ann := fun _ => none
abbrev k_DrawOneWayTable : List Nat := [0, 2]
abbrev o_DrawOneWayTable : List Nat := []
def a_DrawMostByNeed (f_among : FuncId) (f_lies : FuncId) : AFn := ⟨1, 
  .seq (.reg [⟨some 2, none, .d (.mv (.c (.int .i64 0)))⟩,
    ⟨some 3, none, .d (.mv (.c (.int .i64 0)))⟩])
  (.seq (.reg [⟨some 5, none, .d (.mv (.t 0))⟩,
    ⟨some 6, none, .d (.build [.nilsl, .int .i64 0, .int .u64 0] [(0, 1, (.t 5))])⟩,
    ⟨some 7, none, .w (.box 3 (.t 6))⟩,
    ⟨some 4, none, .d (.mv (.t 7))⟩])
  (.seq (.reg [⟨some 8, none, .d (.mv (.t 4))⟩,
    ⟨some 9, none, .w (.bslice 1 [.int .i64 0, .int .i64 0, .int .i64 0, .int .i64 0, .int .i64 0, .int .i64 0, .int .i64 0, .int .i64 0, .int .i64 0, .int .i64 0, .int .i64 0, .int .i64 0, .int .i64 0] [(0, (.c (.int .i64 4))), (1, (.c (.int .i64 6))), (2, (.c (.int .i64 8))), (3, (.c (.int .i64 3))), (4, (.c (.int .i64 10))), (5, (.c (.int .i64 0))), (6, (.c (.int .i64 20))), (7, (.c (.int .i64 21))), (8, (.c (.int .i64 (-1)))), (9, (.c (.int .i64 5))), (10, (.c (.int .i64 7))), (11, (.c (.int .i64 9))), (12, (.c (.int .i64 2)))])⟩,
    ⟨some 10, none, .w (.callL (.f f_among) [(.t 8), (.t 9)] [7] 0 true)⟩,
    ⟨some 11, none, .d (.mv (.t 4))⟩,
    ⟨some 12, none, .w (.callL (.f f_lies) [(.t 11)] [7] 0 false)⟩,
    ⟨some 2, none, .d (.mv (.t 10))⟩,
    ⟨some 3, none, .d (.mv (.t 12))⟩])
  (.ret))), [.tmp 2, .tmp 3]⟩
def n_DrawMostByNeed : Nat → Option Ann := fun d => if d = 10 then some ⟨[7], 0, true⟩ else if d = 12 then some ⟨[7], 0, false⟩ else none
abbrev k_DrawMostByNeed : List Nat := [0, 2, 3, 4]
abbrev o_DrawMostByNeed : List Nat := [7, 9]
def a_DrawOneWayMost (f_DrawMostByNeed : FuncId) : AFn := ⟨1, 
  .seq (.reg [⟨some 2, none, .d (.mv (.c (.int .i64 0)))⟩,
    ⟨some 3, none, .d (.mv (.c (.int .i64 0)))⟩])
  (.seq (.reg [⟨some 4, none, .d (.mv (.t 0))⟩,
    ⟨some 5, none, .d (.call (.f f_DrawMostByNeed) [(.t 4)])⟩,
    ⟨some 6, none, .d (.extract (.t 5) 0)⟩,
    ⟨some 7, none, .d (.extract (.t 5) 1)⟩,
    ⟨some 2, none, .d (.mv (.t 6))⟩,
    ⟨some 3, none, .d (.mv (.t 7))⟩])
  (.ret)), [.tmp 2, .tmp 3]⟩
def n_DrawOneWayMost : Nat → Option Ann := fun _ => none
abbrev k_DrawOneWayMost : List Nat := [0, 2, 3]
abbrev o_DrawOneWayMost : List Nat := []
def c_DrawAreCounts : Con := pure' fun
  | [.p v] => match slU v with
    | some l => some (.ar 2000000, [.arr 1 (ints (cnR l (0, 0)).1)])
    | none => none
  | _ => none
def c_DrawOneWayNeed : Con := pure' fun
  | [.p v] => match slU v with
    | some l => some (.p (.sl 1 (ints (cnR l (0, 0)).1)), [])
    | none => none
  | _ => none
def c_DrawNeedTable : Con := pure' fun
  | [.p v] => match slU v with
    | some l => some (.p (.int .i64 (liV l (0, 0))), [])
    | none => none
  | _ => none
def moV (l : List Int) : Int := amV l [4, 6, 8, 3, 10, 0, 20, 21, -1, 5, 7, 9, 2] (0, 0)
def c_DrawMostByNeed : Con := pure' fun
  | [.p v] => match slU v with
    | some l => some (.tp [.p (.int .i64 (moV l)), .p (.int .i64 (liV l (pkC l 13 (0, 0))))], [])
    | none => none
  | _ => none
theorem s_DrawAreCounts {P : Program} (hm : P.follows .mixedOrders = true) {Γ : Gam} (hΓ : GS P Γ) {n : FuncId} {f_counts : FuncId} (is : Is P n (a_DrawAreCounts f_counts)) (h_counts : Γ f_counts = c_counts)  : Says P n c_DrawAreCounts := by
  refine Says.pure fun args r fs h => ?_
  split at h
  case h_2 => cases h
  rename_i v
  split at h
  case h_2 => cases h
  rename_i l hv
  simp only [Option.some.injEq, Prod.mk.injEq] at h
  obtain ⟨rfl, rfl⟩ := h
  have hvc := slU_cells hv
  have hvi := slU_isCell hv
  refine is.go hm hΓ k_DrawAreCounts o_DrawAreCounts (by simp [a_DrawAreCounts]) ?_
  simp only [a_DrawAreCounts, h_counts, c_counts, hv, hvc, hvi, Int.le_refl, (by decide : (0 : Int) ≤ 900), List.zipIdx_cons, List.zipIdx_nil, ↓SP, SQ, SU, stepM, callC, argC, nmBy, stepD, stepW, fz, loadA, cellsA, binA, snap, thaw, fzAll, elemOf, partsA, buildA, putCells, ↓reduceIte, reduceCtorEq, okCell, Nat.reduceAdd, Nat.reduceEqDiff, Nat.reduceSub, Nat.reduceMul, Nat.reduceLeDiff, Nat.reduceLT, Nat.reduceBEq]
  refine finA_gen [8] trivial (by simp [retA, rvA, mkE_cons, mk_nil, mkO_cons, mkO_nil, loadA, SV.tr, SV.trL, nmF, rn_nil, rn_cons1, rn_cons2, plainOb, SV.refsL, SV.refs, Ob.refs, X, F, List.range_succ, mkO, setO_mk]; rfl) ?_ ?_ ?_ ?_ ?_ ?_ ?_ <;> simp [hvc, retA, rvA, mkE_cons, mk_nil, mkO_cons, mkO_nil, loadA, SV.tr, SV.trL, nmF, rn_nil, rn_cons1, rn_cons2, plainOb, SV.refsL, SV.refs, Ob.refs, X, F, List.range_succ, mkO, setO_mk]
theorem s_DrawOneWayNeed {P : Program} (hm : P.follows .mixedOrders = true) {Γ : Gam} (hΓ : GS P Γ) {n : FuncId} {f_DrawAreCounts : FuncId} (is : Is P n (a_DrawOneWayNeed f_DrawAreCounts)) (h_DrawAreCounts : Γ f_DrawAreCounts = c_DrawAreCounts)  : Says P n c_DrawOneWayNeed := by
  refine Says.pure fun args r fs h => ?_
  split at h
  case h_2 => cases h
  rename_i v
  split at h
  case h_2 => cases h
  rename_i l hv
  simp only [Option.some.injEq, Prod.mk.injEq] at h
  obtain ⟨rfl, rfl⟩ := h
  refine is.go hm hΓ k_DrawOneWayNeed o_DrawOneWayNeed (by simp [a_DrawOneWayNeed]) ?_
  simp only [a_DrawOneWayNeed, h_DrawAreCounts, c_DrawAreCounts, hv, List.zipIdx_cons, List.zipIdx_nil, ↓SP, SQ, SU, stepM, callC, argC, nmBy, stepD, stepW, fz, loadA, cellsA, binA, snap, thaw, fzAll, elemOf, partsA, buildA, putCells, ↓reduceIte, reduceCtorEq, okCell, Nat.reduceAdd, Nat.reduceEqDiff, Nat.reduceSub, Nat.reduceMul, Nat.reduceLeDiff, Nat.reduceLT, Nat.reduceBEq]
  exact finA_val (by simp [retA, rvA, mkE_cons, mk_nil, mkO_cons, mkO_nil, loadA, SV.tr, SV.trL, nmF, rn_nil, rn_cons1, rn_cons2, plainOb, SV.refsL, SV.refs, Ob.refs, X, F, List.range_succ, mkO, setO_mk]) (by simp [SV.tr, SV.trL])
theorem s_DrawNeedTable {P : Program} (hm : P.follows .mixedOrders = true) {Γ : Gam} (hΓ : GS P Γ) {n : FuncId} {f_lies : FuncId} (is : Is P n (a_DrawNeedTable f_lies)) (h_lies : Γ f_lies = c_lies)  : Says P n c_DrawNeedTable := by
  refine Says.pure fun args r fs h => ?_
  split at h
  case h_2 => cases h
  rename_i v
  split at h
  case h_2 => cases h
  rename_i l hv
  simp only [Option.some.injEq, Prod.mk.injEq] at h
  obtain ⟨rfl, rfl⟩ := h
  have hvc := slU_cells hv
  have hvi := slU_isCell hv
  refine is.go hm hΓ k_DrawNeedTable o_DrawNeedTable (by simp [a_DrawNeedTable]) ?_
  simp only [a_DrawNeedTable, h_lies, c_lies, hv, hvc, hvi, Int.le_refl, (by decide : (0 : Int) ≤ 1000), List.zipIdx_cons, List.zipIdx_nil, ↓SP, SQ, SU, stepM, callC, argC, nmBy, stepD, stepW, fz, loadA, cellsA, binA, snap, thaw, fzAll, elemOf, partsA, buildA, putCells, ↓reduceIte, reduceCtorEq, okCell, Nat.reduceAdd, Nat.reduceEqDiff, Nat.reduceSub, Nat.reduceMul, Nat.reduceLeDiff, Nat.reduceLT, Nat.reduceBEq]
  exact finA_val (by simp [hvc, retA, rvA, mkE_cons, mk_nil, mkO_cons, mkO_nil, loadA, SV.tr, SV.trL, nmF, rn_nil, rn_cons1, rn_cons2, plainOb, SV.refsL, SV.refs, Ob.refs, X, F, List.range_succ, mkO, setO_mk]) (by simp [SV.tr, SV.trL])
theorem s_DrawOneWayTable {P : Program} (hm : P.follows .mixedOrders = true) {Γ : Gam} (hΓ : GS P Γ) {n : FuncId} {f_DrawNeedTable : FuncId} (is : Is P n (a_DrawOneWayTable f_DrawNeedTable)) (h_DrawNeedTable : Γ f_DrawNeedTable = c_DrawNeedTable)  : Says P n c_DrawNeedTable := by
  refine Says.pure fun args r fs h => ?_
  split at h
  case h_2 => cases h
  rename_i v
  split at h
  case h_2 => cases h
  rename_i l hv
  simp only [Option.some.injEq, Prod.mk.injEq] at h
  obtain ⟨rfl, rfl⟩ := h
  refine is.go hm hΓ k_DrawOneWayTable o_DrawOneWayTable (by simp [a_DrawOneWayTable]) ?_
  simp only [a_DrawOneWayTable, h_DrawNeedTable, c_DrawNeedTable, hv, List.zipIdx_cons, List.zipIdx_nil, ↓SP, SQ, SU, stepM, callC, argC, nmBy, stepD, stepW, fz, loadA, cellsA, binA, snap, thaw, fzAll, elemOf, partsA, buildA, putCells, ↓reduceIte, reduceCtorEq, okCell, Nat.reduceAdd, Nat.reduceEqDiff, Nat.reduceSub, Nat.reduceMul, Nat.reduceLeDiff, Nat.reduceLT, Nat.reduceBEq]
  exact finA_val (by simp [retA, rvA, mkE_cons, mk_nil, mkO_cons, mkO_nil, loadA, SV.tr, SV.trL, nmF, rn_nil, rn_cons1, rn_cons2, plainOb, SV.refsL, SV.refs, Ob.refs, X, F, List.range_succ, mkO, setO_mk]) (by simp [SV.tr, SV.trL])
theorem s_DrawMostByNeed {P : Program} (hm : P.follows .mixedOrders = true) {Γ : Gam} (hΓ : GS P Γ) {n : FuncId} {f_among : FuncId} {f_lies : FuncId} (is : Is P n (a_DrawMostByNeed f_among f_lies)) (h_among : Γ f_among = c_among) (h_lies : Γ f_lies = c_lies)  : Says P n c_DrawMostByNeed := by
  refine Says.pure fun args r fs h => ?_
  split at h
  case h_2 => cases h
  rename_i v
  split at h
  case h_2 => cases h
  rename_i l hv
  simp only [Option.some.injEq, Prod.mk.injEq] at h
  obtain ⟨rfl, rfl⟩ := h
  have hvc := slU_cells hv
  have hvi := slU_isCell hv
  have h1 := (cu0 0 (by omega)).pk l 13
  have r1 := h1.1
  have r2 : (pkC l 13 (0, 0)).1 ≤ 1000 := by have := h1.2; omega
  refine is.go hm hΓ k_DrawMostByNeed o_DrawMostByNeed (by simp [a_DrawMostByNeed]) ?_
  simp only [a_DrawMostByNeed, h_among, c_among, h_lies, c_lies, hv, hvc, hvi, r1, r2, cuEta, Int.le_refl, (by decide : (0 : Int) ≤ 1000), isI, ofI, Int.cast_ofNat_Int, List.zipIdx_cons, List.zipIdx_nil, ↓SP, SQ, SU, stepM, callC, argC, nmBy, stepD, stepW, fz, loadA, cellsA, binA, snap, thaw, fzAll, elemOf, partsA, buildA, putCells, ↓reduceIte, reduceCtorEq, okCell, Nat.reduceAdd, Nat.reduceEqDiff, Nat.reduceSub, Nat.reduceMul, Nat.reduceLeDiff, Nat.reduceLT, Nat.reduceBEq]
  exact finA_val (by simp [hvc, moV, retA, rvA, mkE_cons, mk_nil, mkO_cons, mkO_nil, loadA, SV.tr, SV.trL, nmF, rn_nil, rn_cons1, rn_cons2, plainOb, SV.refsL, SV.refs, Ob.refs, X, F, List.range_succ, mkO, setO_mk]) (by simp [SV.tr, SV.trL])
theorem s_DrawOneWayMost {P : Program} (hm : P.follows .mixedOrders = true) {Γ : Gam} (hΓ : GS P Γ) {n : FuncId} {f_DrawMostByNeed : FuncId} (is : Is P n (a_DrawOneWayMost f_DrawMostByNeed)) (h_DrawMostByNeed : Γ f_DrawMostByNeed = c_DrawMostByNeed)  : Says P n c_DrawMostByNeed := by
  refine Says.pure fun args r fs h => ?_
  split at h
  case h_2 => cases h
  rename_i v
  split at h
  case h_2 => cases h
  rename_i l hv
  simp only [Option.some.injEq, Prod.mk.injEq] at h
  obtain ⟨rfl, rfl⟩ := h
  refine is.go hm hΓ k_DrawOneWayMost o_DrawOneWayMost (by simp [a_DrawOneWayMost]) ?_
  simp only [a_DrawOneWayMost, h_DrawMostByNeed, c_DrawMostByNeed, hv, List.zipIdx_cons, List.zipIdx_nil, ↓SP, SQ, SU, stepM, callC, argC, nmBy, stepD, stepW, fz, loadA, cellsA, binA, snap, thaw, fzAll, elemOf, partsA, buildA, putCells, ↓reduceIte, reduceCtorEq, okCell, Nat.reduceAdd, Nat.reduceEqDiff, Nat.reduceSub, Nat.reduceMul, Nat.reduceLeDiff, Nat.reduceLT, Nat.reduceBEq]
  exact finA_val (by simp [retA, rvA, mkE_cons, mk_nil, mkO_cons, mkO_nil, loadA, SV.tr, SV.trL, nmF, rn_nil, rn_cons1, rn_cons2, plainOb, SV.refsL, SV.refs, Ob.refs, X, F, List.range_succ, mkO, setO_mk]) (by simp [SV.tr, SV.trL])
end Go.Proofs.Ytihpfhdkjlphhaa.Pam
