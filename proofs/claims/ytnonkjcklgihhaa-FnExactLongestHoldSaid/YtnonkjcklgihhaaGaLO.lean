/- A part of the proof that stands in this folder: a small machine whose steps are shown to be the steps of the model, or walks of functions by it. No condition of its own. -/
import Derived.Test.YtnonkjcklgihhaaGaLN
set_option linter.unusedVariables false
set_option linter.unusedSimpArgs false
namespace Go.Proofs.Ytnonkjcklgihhaa.Pam
open Go
/-- Of the first k lists of answers, those that keep a numbers open. -/
def cntI (x : List Int) (m : Int) (l : List Int) (a : Int) (k : Nat) : Nat := ((List.range k).filter fun v : Nat => decide (a ≤ (leftN x m l v : Int))).length
def cntN (x : List Int) (m : Int) (l : List Int) (a : Int) : Nat := cntI x m l a (2 ^ l.length)
theorem cntI_yes {x : List Int} {m : Int} {l : List Int} {a : Int} {k : Nat} (h : a ≤ (leftN x m l k : Int)) : cntI x m l a (k + 1) = cntI x m l a k + 1 := by
  simp only [cntI, List.range_succ, List.filter_append, List.filter_cons, dec_t h, List.filter_nil, if_true, List.length_append, List.length_cons, List.length_nil]
theorem cntI_no {x : List Int} {m : Int} {l : List Int} {a : Int} {k : Nat} (h : ¬ a ≤ (leftN x m l k : Int)) : cntI x m l a (k + 1) = cntI x m l a k := by
  simp only [cntI, List.range_succ, List.filter_append, List.filter_cons, dec_f h, List.filter_nil, Bool.false_eq_true, if_false, List.append_nil]
theorem cntI_le (x : List Int) (m : Int) (l : List Int) (a : Int) (k : Nat) : cntI x m l a k ≤ k := Nat.le_trans (List.length_filter_le _ _) (by simp)
def a_count1 : AFn := ⟨4, 
  .seq (.reg [⟨some 6, none, .d (.mv (.t 1))⟩,
    ⟨some 7, none, .d (.load false 1 (.t 2))⟩,
    ⟨some 8, none, .d (.bin .arith .geq (.t 6) (.t 7))⟩])
  (.cond (.t 8) (.reg [⟨some 9, none, .d (.load false 1 (.t 3))⟩,
     ⟨some 10, none, .d (.bin .arith .add (.t 9) (.c (.int .i64 1)))⟩,
     ⟨none, none, .w (.store 1 (.t 3) (.t 10))⟩]) (.skip)), []⟩
def n_count1 : Nat → Option Ann := fun _ => none
abbrev k_count1 : List Nat := [1, 2, 3, 8]
abbrev o_count1 : List Nat := []
def c_count1 : Con
  | [.p v, .p (.int .i64 n), .bx 1000000 0, .bx 1000001 0], [.box [.p (.int .i64 a)], .box [.p (.int .i64 c)]] => if 0 ≤ c ∧ c ≤ 1000000 then some (.tp [], [.box [.p (.int .i64 a)], .box [.p (.int .i64 (if a ≤ n then c + 1 else c))]], []) else none
  | _, _ => none
theorem s_count1 {P : Program} (hm : P.follows .mixedOrders = true) {Γ : Gam} (hΓ : GS P Γ) {n : FuncId} (is : Is P n a_count1)  : Says P n c_count1 := by
  intro args ext r ext' fs h
  unfold c_count1 at h
  split at h
  case h_2 => cases h
  rename_i v n a c
  split at h
  case isFalse => cases h
  rename_i hc
  simp only [Option.some.injEq, Prod.mk.injEq] at h
  obtain ⟨rfl, rfl, rfl⟩ := h
  have hw : IntKind.i64.wrap (c + 1) = c + 1 := wrap64 (by omega) (by omega)
  refine is.goX hm hΓ k_count1 (1000000 :: 1000001 :: o_count1) (by simp [a_count1]) (by simp) ?_
  by_cases h1 : a ≤ n
  · have h2 : n ≥ a := h1
    simp only [a_count1, hw, h1, h2, List.zipIdx_cons, List.zipIdx_nil, ↓SP, SQ, Gam.add, stepM, callC, argC, lendO, nmBy, nmC, likeL, likeB, plainOb, offs, X, F, trP, trO, stepD, stepW, newA, SV.tr, SV.trL, fz, allP, Ob.tr, loadA, cellsA, SV.cells, binA, binI, eqOut, isSl, isPt, natOf, callee, snap, SV.refsL, SV.refs, thaw, fzAll, loA, hiA, elemOf, partsA, buildA, putCells, ↓reduceIte, reduceCtorEq, okCell, Nat.reduceAdd, Nat.reduceEqDiff, Nat.reduceSub, Nat.reduceMul, Nat.reduceLeDiff, Nat.reduceLT, Nat.reduceBEq, PV.scal, PV.scalL, SV.scal, SV.scalL, Ob.scal, PV.isCell, pure', resO]
    exact finA_gen [] trivial (by simp [retA, rvA, List.mapM_cons, List.mapM_nil, Option.pure_def, Option.bind_eq_bind, Option.bind_some, Option.map_some, mkE_cons, mk_nil, mkO_cons, mkO_nil, loadA, ↓reduceIte, List.take_succ_cons, List.take_zero, List.drop_zero, List.drop_succ_cons, List.length_cons, List.length_nil, Nat.reduceAdd, Nat.reduceEqDiff, Nat.reduceLeDiff, Nat.zero_add, Nat.le_refl, reduceCtorEq, SV.tr, SV.trL, nmF, rn_nil, rn_cons1, rn_cons2, List.map_cons, List.map_nil, List.all_cons, List.all_nil, plainOb, SV.refsL, SV.refs, Ob.refs, X, F, List.range_succ, List.range_zero, List.nil_append, List.cons_append, List.isEmpty_nil, decide_true, Nat.reduceLT, Bool.and_self, Bool.and_true, and_self, and_true, List.getElem?_cons_zero, List.getElem?_cons_succ, List.nodup_cons, List.nodup_nil, List.mem_cons, List.not_mem_nil, not_false_eq_true, or_false, List.append_nil, mkO, setO_mk, List.mem_singleton]; rfl) (by simp [retA, rvA, List.mapM_cons, List.mapM_nil, Option.pure_def, Option.bind_eq_bind, Option.bind_some, Option.map_some, mkE_cons, mk_nil, mkO_cons, mkO_nil, loadA, ↓reduceIte, List.take_succ_cons, List.take_zero, List.drop_zero, List.drop_succ_cons, List.length_cons, List.length_nil, Nat.reduceAdd, Nat.reduceEqDiff, Nat.reduceLeDiff, Nat.zero_add, Nat.le_refl, reduceCtorEq, SV.tr, SV.trL, nmF, rn_nil, rn_cons1, rn_cons2, List.map_cons, List.map_nil, List.all_cons, List.all_nil, plainOb, SV.refsL, SV.refs, Ob.refs, X, F, List.range_succ, List.range_zero, List.nil_append, List.cons_append, List.isEmpty_nil, decide_true, Nat.reduceLT, Bool.and_self, Bool.and_true, and_self, and_true, List.getElem?_cons_zero, List.getElem?_cons_succ, List.nodup_cons, List.nodup_nil, List.mem_cons, List.not_mem_nil, not_false_eq_true, or_false, List.append_nil, mkO, setO_mk, List.mem_singleton]) (by simp [retA, rvA, List.mapM_cons, List.mapM_nil, Option.pure_def, Option.bind_eq_bind, Option.bind_some, Option.map_some, mkE_cons, mk_nil, mkO_cons, mkO_nil, loadA, ↓reduceIte, List.take_succ_cons, List.take_zero, List.drop_zero, List.drop_succ_cons, List.length_cons, List.length_nil, Nat.reduceAdd, Nat.reduceEqDiff, Nat.reduceLeDiff, Nat.zero_add, Nat.le_refl, reduceCtorEq, SV.tr, SV.trL, nmF, rn_nil, rn_cons1, rn_cons2, List.map_cons, List.map_nil, List.all_cons, List.all_nil, plainOb, SV.refsL, SV.refs, Ob.refs, X, F, List.range_succ, List.range_zero, List.nil_append, List.cons_append, List.isEmpty_nil, decide_true, Nat.reduceLT, Bool.and_self, Bool.and_true, and_self, and_true, List.getElem?_cons_zero, List.getElem?_cons_succ, List.nodup_cons, List.nodup_nil, List.mem_cons, List.not_mem_nil, not_false_eq_true, or_false, List.append_nil, mkO, setO_mk, List.mem_singleton]) (by simp) (by simp) (by simp [retA, rvA, List.mapM_cons, List.mapM_nil, Option.pure_def, Option.bind_eq_bind, Option.bind_some, Option.map_some, mkE_cons, mk_nil, mkO_cons, mkO_nil, loadA, ↓reduceIte, List.take_succ_cons, List.take_zero, List.drop_zero, List.drop_succ_cons, List.length_cons, List.length_nil, Nat.reduceAdd, Nat.reduceEqDiff, Nat.reduceLeDiff, Nat.zero_add, Nat.le_refl, reduceCtorEq, SV.tr, SV.trL, nmF, rn_nil, rn_cons1, rn_cons2, List.map_cons, List.map_nil, List.all_cons, List.all_nil, plainOb, SV.refsL, SV.refs, Ob.refs, X, F, List.range_succ, List.range_zero, List.nil_append, List.cons_append, List.isEmpty_nil, decide_true, Nat.reduceLT, Bool.and_self, Bool.and_true, and_self, and_true, List.getElem?_cons_zero, List.getElem?_cons_succ, List.nodup_cons, List.nodup_nil, List.mem_cons, List.not_mem_nil, not_false_eq_true, or_false, List.append_nil, mkO, setO_mk, List.mem_singleton]) (by simp [retA, rvA, List.mapM_cons, List.mapM_nil, Option.pure_def, Option.bind_eq_bind, Option.bind_some, Option.map_some, mkE_cons, mk_nil, mkO_cons, mkO_nil, loadA, ↓reduceIte, List.take_succ_cons, List.take_zero, List.drop_zero, List.drop_succ_cons, List.length_cons, List.length_nil, Nat.reduceAdd, Nat.reduceEqDiff, Nat.reduceLeDiff, Nat.zero_add, Nat.le_refl, reduceCtorEq, SV.tr, SV.trL, nmF, rn_nil, rn_cons1, rn_cons2, List.map_cons, List.map_nil, List.all_cons, List.all_nil, plainOb, SV.refsL, SV.refs, Ob.refs, X, F, List.range_succ, List.range_zero, List.nil_append, List.cons_append, List.isEmpty_nil, decide_true, Nat.reduceLT, Bool.and_self, Bool.and_true, and_self, and_true, List.getElem?_cons_zero, List.getElem?_cons_succ, List.nodup_cons, List.nodup_nil, List.mem_cons, List.not_mem_nil, not_false_eq_true, or_false, List.append_nil, mkO, setO_mk, List.mem_singleton]) (by simp [retA, rvA, List.mapM_cons, List.mapM_nil, Option.pure_def, Option.bind_eq_bind, Option.bind_some, Option.map_some, mkE_cons, mk_nil, mkO_cons, mkO_nil, loadA, ↓reduceIte, List.take_succ_cons, List.take_zero, List.drop_zero, List.drop_succ_cons, List.length_cons, List.length_nil, Nat.reduceAdd, Nat.reduceEqDiff, Nat.reduceLeDiff, Nat.zero_add, Nat.le_refl, reduceCtorEq, SV.tr, SV.trL, nmF, rn_nil, rn_cons1, rn_cons2, List.map_cons, List.map_nil, List.all_cons, List.all_nil, plainOb, SV.refsL, SV.refs, Ob.refs, X, F, List.range_succ, List.range_zero, List.nil_append, List.cons_append, List.isEmpty_nil, decide_true, Nat.reduceLT, Bool.and_self, Bool.and_true, and_self, and_true, List.getElem?_cons_zero, List.getElem?_cons_succ, List.nodup_cons, List.nodup_nil, List.mem_cons, List.not_mem_nil, not_false_eq_true, or_false, List.append_nil, mkO, setO_mk, List.mem_singleton])
  · have h2 : ¬ n ≥ a := h1
    simp only [a_count1, hw, h1, h2, List.zipIdx_cons, List.zipIdx_nil, ↓SP, SQ, Gam.add, stepM, callC, argC, lendO, nmBy, nmC, likeL, likeB, plainOb, offs, X, F, trP, trO, stepD, stepW, newA, SV.tr, SV.trL, fz, allP, Ob.tr, loadA, cellsA, SV.cells, binA, binI, eqOut, isSl, isPt, natOf, callee, snap, SV.refsL, SV.refs, thaw, fzAll, loA, hiA, elemOf, partsA, buildA, putCells, ↓reduceIte, reduceCtorEq, okCell, Nat.reduceAdd, Nat.reduceEqDiff, Nat.reduceSub, Nat.reduceMul, Nat.reduceLeDiff, Nat.reduceLT, Nat.reduceBEq, PV.scal, PV.scalL, SV.scal, SV.scalL, Ob.scal, PV.isCell, pure', resO]
    exact finA_gen [] trivial (by simp [retA, rvA, List.mapM_cons, List.mapM_nil, Option.pure_def, Option.bind_eq_bind, Option.bind_some, Option.map_some, mkE_cons, mk_nil, mkO_cons, mkO_nil, loadA, ↓reduceIte, List.take_succ_cons, List.take_zero, List.drop_zero, List.drop_succ_cons, List.length_cons, List.length_nil, Nat.reduceAdd, Nat.reduceEqDiff, Nat.reduceLeDiff, Nat.zero_add, Nat.le_refl, reduceCtorEq, SV.tr, SV.trL, nmF, rn_nil, rn_cons1, rn_cons2, List.map_cons, List.map_nil, List.all_cons, List.all_nil, plainOb, SV.refsL, SV.refs, Ob.refs, X, F, List.range_succ, List.range_zero, List.nil_append, List.cons_append, List.isEmpty_nil, decide_true, Nat.reduceLT, Bool.and_self, Bool.and_true, and_self, and_true, List.getElem?_cons_zero, List.getElem?_cons_succ, List.nodup_cons, List.nodup_nil, List.mem_cons, List.not_mem_nil, not_false_eq_true, or_false, List.append_nil, mkO, setO_mk, List.mem_singleton]; rfl) (by simp [retA, rvA, List.mapM_cons, List.mapM_nil, Option.pure_def, Option.bind_eq_bind, Option.bind_some, Option.map_some, mkE_cons, mk_nil, mkO_cons, mkO_nil, loadA, ↓reduceIte, List.take_succ_cons, List.take_zero, List.drop_zero, List.drop_succ_cons, List.length_cons, List.length_nil, Nat.reduceAdd, Nat.reduceEqDiff, Nat.reduceLeDiff, Nat.zero_add, Nat.le_refl, reduceCtorEq, SV.tr, SV.trL, nmF, rn_nil, rn_cons1, rn_cons2, List.map_cons, List.map_nil, List.all_cons, List.all_nil, plainOb, SV.refsL, SV.refs, Ob.refs, X, F, List.range_succ, List.range_zero, List.nil_append, List.cons_append, List.isEmpty_nil, decide_true, Nat.reduceLT, Bool.and_self, Bool.and_true, and_self, and_true, List.getElem?_cons_zero, List.getElem?_cons_succ, List.nodup_cons, List.nodup_nil, List.mem_cons, List.not_mem_nil, not_false_eq_true, or_false, List.append_nil, mkO, setO_mk, List.mem_singleton]) (by simp [retA, rvA, List.mapM_cons, List.mapM_nil, Option.pure_def, Option.bind_eq_bind, Option.bind_some, Option.map_some, mkE_cons, mk_nil, mkO_cons, mkO_nil, loadA, ↓reduceIte, List.take_succ_cons, List.take_zero, List.drop_zero, List.drop_succ_cons, List.length_cons, List.length_nil, Nat.reduceAdd, Nat.reduceEqDiff, Nat.reduceLeDiff, Nat.zero_add, Nat.le_refl, reduceCtorEq, SV.tr, SV.trL, nmF, rn_nil, rn_cons1, rn_cons2, List.map_cons, List.map_nil, List.all_cons, List.all_nil, plainOb, SV.refsL, SV.refs, Ob.refs, X, F, List.range_succ, List.range_zero, List.nil_append, List.cons_append, List.isEmpty_nil, decide_true, Nat.reduceLT, Bool.and_self, Bool.and_true, and_self, and_true, List.getElem?_cons_zero, List.getElem?_cons_succ, List.nodup_cons, List.nodup_nil, List.mem_cons, List.not_mem_nil, not_false_eq_true, or_false, List.append_nil, mkO, setO_mk, List.mem_singleton]) (by simp) (by simp) (by simp [retA, rvA, List.mapM_cons, List.mapM_nil, Option.pure_def, Option.bind_eq_bind, Option.bind_some, Option.map_some, mkE_cons, mk_nil, mkO_cons, mkO_nil, loadA, ↓reduceIte, List.take_succ_cons, List.take_zero, List.drop_zero, List.drop_succ_cons, List.length_cons, List.length_nil, Nat.reduceAdd, Nat.reduceEqDiff, Nat.reduceLeDiff, Nat.zero_add, Nat.le_refl, reduceCtorEq, SV.tr, SV.trL, nmF, rn_nil, rn_cons1, rn_cons2, List.map_cons, List.map_nil, List.all_cons, List.all_nil, plainOb, SV.refsL, SV.refs, Ob.refs, X, F, List.range_succ, List.range_zero, List.nil_append, List.cons_append, List.isEmpty_nil, decide_true, Nat.reduceLT, Bool.and_self, Bool.and_true, and_self, and_true, List.getElem?_cons_zero, List.getElem?_cons_succ, List.nodup_cons, List.nodup_nil, List.mem_cons, List.not_mem_nil, not_false_eq_true, or_false, List.append_nil, mkO, setO_mk, List.mem_singleton]) (by simp [retA, rvA, List.mapM_cons, List.mapM_nil, Option.pure_def, Option.bind_eq_bind, Option.bind_some, Option.map_some, mkE_cons, mk_nil, mkO_cons, mkO_nil, loadA, ↓reduceIte, List.take_succ_cons, List.take_zero, List.drop_zero, List.drop_succ_cons, List.length_cons, List.length_nil, Nat.reduceAdd, Nat.reduceEqDiff, Nat.reduceLeDiff, Nat.zero_add, Nat.le_refl, reduceCtorEq, SV.tr, SV.trL, nmF, rn_nil, rn_cons1, rn_cons2, List.map_cons, List.map_nil, List.all_cons, List.all_nil, plainOb, SV.refsL, SV.refs, Ob.refs, X, F, List.range_succ, List.range_zero, List.nil_append, List.cons_append, List.isEmpty_nil, decide_true, Nat.reduceLT, Bool.and_self, Bool.and_true, and_self, and_true, List.getElem?_cons_zero, List.getElem?_cons_succ, List.nodup_cons, List.nodup_nil, List.mem_cons, List.not_mem_nil, not_false_eq_true, or_false, List.append_nil, mkO, setO_mk, List.mem_singleton]) (by simp [retA, rvA, List.mapM_cons, List.mapM_nil, Option.pure_def, Option.bind_eq_bind, Option.bind_some, Option.map_some, mkE_cons, mk_nil, mkO_cons, mkO_nil, loadA, ↓reduceIte, List.take_succ_cons, List.take_zero, List.drop_zero, List.drop_succ_cons, List.length_cons, List.length_nil, Nat.reduceAdd, Nat.reduceEqDiff, Nat.reduceLeDiff, Nat.zero_add, Nat.le_refl, reduceCtorEq, SV.tr, SV.trL, nmF, rn_nil, rn_cons1, rn_cons2, List.map_cons, List.map_nil, List.all_cons, List.all_nil, plainOb, SV.refsL, SV.refs, Ob.refs, X, F, List.range_succ, List.range_zero, List.nil_append, List.cons_append, List.isEmpty_nil, decide_true, Nat.reduceLT, Bool.and_self, Bool.and_true, and_self, and_true, List.getElem?_cons_zero, List.getElem?_cons_succ, List.nodup_cons, List.nodup_nil, List.mem_cons, List.not_mem_nil, not_false_eq_true, or_false, List.append_nil, mkO, setO_mk, List.mem_singleton])
theorem runK_count {Γ0 : Gam} {g : FuncId} (h : Γ0 g = c_count1) (x : List Int) (m : Int) (l : List Int) (a : Int) : ∀ k, k ≤ 1000 → runK Γ0 g (fK x m l) k (.int .i64 a) (.int .i64 0) = some (.int .i64 a, .int .i64 (cntI x m l a k : Int))
  | 0, _ => rfl
  | k + 1, hk => by
    have hle := cntI_le x m l a k
    have h0 : (0 : Int) ≤ (cntI x m l a k : Int) ∧ (cntI x m l a k : Int) ≤ 1000000 := by omega
    simp only [runK, runK_count h x m l a k (by omega), h, fK]
    by_cases h1 : a ≤ (leftN x m l k : Int)
    · simp only [c_count1, h0, h1, cntI_yes h1, and_self, if_true, Int.natCast_add, Int.natCast_one]
    · simp only [c_count1, h0, h1, cntI_no h1, and_self, if_true, if_false]
def a_count (f_count1 : FuncId) (f_lists : FuncId) : AFn := ⟨3, 
  .seq (.reg [⟨some 3, none, .w (.box 2 (.t 0))⟩,
    ⟨some 5, none, .w (.box 1 (.t 2))⟩,
    ⟨some 6, none, .d (.mv (.c (.int .i64 0)))⟩])
  (.seq (.reg [⟨some 7, none, .w (.alloc [.int .i64 0])⟩,
    ⟨none, none, .w (.store 1 (.t 7) (.c (.int .i64 0)))⟩])
  (.seq (.reg [⟨some 8, none, .d (.load true 2 (.t 3))⟩,
    ⟨some 9, none, .d (.mv (.t 1))⟩,
    ⟨some 10, none, .d (.mkfn f_count1 [] [(.t 5), (.t 7)])⟩,
    ⟨some 11, none, .w (.callL (.f f_lists) [(.t 8), (.t 9), (.t 10)] [5, 7] 0 false)⟩])
  (.seq (.reg [⟨some 12, none, .d (.load false 1 (.t 7))⟩,
    ⟨some 6, none, .d (.mv (.t 12))⟩])
  (.ret)))), [.tmp 6]⟩
def n_count : Nat → Option Ann := fun d => if d = 11 then some ⟨[5, 7], 0, false⟩ else none
abbrev k_count : List Nat := [0, 1, 2, 3, 5, 6, 7]
abbrev o_count : List Nat := [3, 5, 7]
def a_l8Count (f_l8Left : FuncId) : AFn := ⟨3, 
  .seq (.reg [⟨some 3, none, .w (.box 2 (.t 0))⟩,
    ⟨some 6, none, .d (.mv (.c (.int .i64 0)))⟩])
  (.seq (.reg [⟨some 7, none, .d (.mv (.c (.int .i64 0)))⟩])
  (.seq (.seq (.reg [⟨some 8, none, .d (.mv (.c (.int .i64 0)))⟩])
  (.block 0 (.loop (.seq (.seq (.reg [⟨some 9, none, .d (.mv (.t 8))⟩,
      ⟨some 10, none, .d (.mv (.t 1))⟩,
      ⟨some 11, none, .d (.len (.t 10))⟩,
      ⟨some 12, none, .d (.bin .arith .shl (.c (.int .i64 1)) (.t 11))⟩,
      ⟨some 13, none, .d (.bin .arith .lss (.t 9) (.t 12))⟩])
    (.cond (.t 13) (.skip) (.exit 0)))
    (.seq (.block 1 (.seq (.reg [⟨some 16, none, .d (.load true 2 (.t 3))⟩,
       ⟨some 17, none, .d (.mv (.t 1))⟩,
       ⟨some 18, none, .d (.mv (.t 8))⟩,
       ⟨some 19, none, .d (.call (.f f_l8Left) [(.t 16), (.t 17), (.t 18)])⟩,
       ⟨some 20, none, .d (.mv (.t 2))⟩,
       ⟨some 21, none, .d (.bin .arith .geq (.t 19) (.t 20))⟩])
     (.cond (.t 21) (.reg [⟨some 22, none, .d (.mv (.t 7))⟩,
        ⟨some 23, none, .d (.bin .arith .add (.t 22) (.c (.int .i64 1)))⟩,
        ⟨some 7, none, .d (.mv (.t 23))⟩]) (.skip))))
    (.reg [⟨some 14, none, .d (.mv (.t 8))⟩,
      ⟨some 15, none, .d (.bin .arith .add (.t 14) (.c (.int .i64 1)))⟩,
      ⟨some 8, none, .d (.mv (.t 15))⟩]))))))
  (.seq (.reg [⟨some 24, none, .d (.mv (.t 7))⟩,
    ⟨some 6, none, .d (.mv (.t 24))⟩])
  (.ret)))), [.tmp 6]⟩
def n_l8Count : Nat → Option Ann := fun _ => none
abbrev k_l8Count : List Nat := [0, 1, 2, 3, 6, 7, 8, 13, 21]
abbrev o_l8Count : List Nat := [3]
def c_count : Con := pure' fun
  | [.p (.agg [.sl 1 x_, .int .i64 m]), .p (.sl 1 l_), .p (.int .i64 a)] => if isI x_ = true ∧ isI l_ = true ∧ ((ofI x_).length ≤ 1100000 ∧ (ofI l_).length ≤ 8 ∧ m ≤ 1000 ∧ allSm m (ofI x_) = true) then some (.p (.int .i64 (cntN (ofI x_) m (ofI l_) a : Int)), []) else none
  | _ => none
theorem s_count {P : Program} (hm : P.follows .mixedOrders = true) {Γ : Gam} (hΓ : GS P Γ) {n : FuncId} {f_count1 : FuncId} {f_lists : FuncId} (is : Is P n (a_count f_count1 f_lists)) {Γ0 : Gam} (h_lists : Γ f_lists = c_lists Γ0) (h_count1 : Γ0 f_count1 = c_count1) : Says P n c_count := by
  refine Says.pure fun args r fs h => ?_
  split at h
  case h_2 => cases h
  rename_i x_ m l_ a
  split at h
  case isFalse => cases h
  rename_i hc
  obtain ⟨hx_, hc⟩ := hc
  obtain ⟨x, rfl⟩ := isI_out hx_
  obtain ⟨hl_, hc⟩ := hc
  obtain ⟨l, rfl⟩ := isI_out hl_
  simp only [ofI_ints, ofBo_bools, ofAs_asks, Option.some.injEq, Prod.mk.injEq] at h hc
  obtain ⟨rfl, rfl⟩ := h
  obtain ⟨h0, h1, h2, h3⟩ := hc
  have hp8 := pow8 h1
  have hrun := runK_count h_count1 x m l a (2 ^ l.length) (by omega)
  refine is.go hm hΓ k_count o_count (by simp [a_count]) ?_
  simp only [a_count, h_lists, c_lists, h0, h1, h2, h3, ints_len, ofI_ints, isI_ints, hrun, List.zipIdx_cons, List.zipIdx_nil, ↓SP, SQ, Gam.add, stepM, callC, argC, lendO, nmBy, nmC, likeL, likeB, plainOb, offs, X, F, trP, trO, stepD, stepW, newA, SV.tr, SV.trL, fz, allP, Ob.tr, loadA, cellsA, SV.cells, binA, binI, eqOut, isSl, isPt, natOf, callee, snap, SV.refsL, SV.refs, thaw, fzAll, loA, hiA, elemOf, partsA, buildA, putCells, ↓reduceIte, reduceCtorEq, okCell, Nat.reduceAdd, Nat.reduceEqDiff, Nat.reduceSub, Nat.reduceMul, Nat.reduceLeDiff, Nat.reduceLT, Nat.reduceBEq, PV.scal, PV.scalL, SV.scal, SV.scalL, Ob.scal, PV.isCell, pure', resO]
  exact finA_val (by simp [cntN, retA, rvA, List.mapM_cons, List.mapM_nil, Option.pure_def, Option.bind_eq_bind, Option.bind_some, Option.map_some, mkE_cons, mk_nil, mkO_cons, mkO_nil, loadA, ↓reduceIte, List.take_succ_cons, List.take_zero, List.drop_zero, List.drop_succ_cons, List.length_cons, List.length_nil, Nat.reduceAdd, Nat.reduceEqDiff, Nat.reduceLeDiff, Nat.zero_add, Nat.le_refl, reduceCtorEq, SV.tr, SV.trL, nmF, rn_nil, rn_cons1, rn_cons2, List.map_cons, List.map_nil, List.all_cons, List.all_nil, plainOb, SV.refsL, SV.refs, Ob.refs, X, F, List.range_succ, List.range_zero, List.nil_append, List.cons_append, List.isEmpty_nil, decide_true, Nat.reduceLT, Bool.and_self, Bool.and_true, and_self, and_true, List.getElem?_cons_zero, List.getElem?_cons_succ, List.nodup_cons, List.nodup_nil, List.mem_cons, List.not_mem_nil, not_false_eq_true, or_false, List.append_nil, mkO, setO_mk, List.mem_singleton]) (by simp [SV.tr, SV.trL])
theorem s_l8Count {P : Program} (hm : P.follows .mixedOrders = true) {Γ : Gam} (hΓ : GS P Γ) {n : FuncId} {f_l8Left : FuncId} (is : Is P n (a_l8Count f_l8Left)) (h_l8Left : Γ f_l8Left = c_l8Left)  : Says P n c_count := by
  refine Says.pure fun args r fs h => ?_
  split at h
  case h_2 => cases h
  rename_i x_ m l_ a
  split at h
  case isFalse => cases h
  rename_i hc
  obtain ⟨hx_, hc⟩ := hc
  obtain ⟨x, rfl⟩ := isI_out hx_
  obtain ⟨hl_, hc⟩ := hc
  obtain ⟨l, rfl⟩ := isI_out hl_
  simp only [ofI_ints, ofBo_bools, ofAs_asks, Option.some.injEq, Prod.mk.injEq] at h hc
  obtain ⟨rfl, rfl⟩ := h
  obtain ⟨h0, h1, h2, h3⟩ := hc
  have hp8 := pow8 h1
  have hsh := shl8 h1
  have hn0 : ¬ (l.length : Int) < 0 := by omega
  refine is.go hm hΓ k_l8Count o_l8Count (by simp [a_l8Count]) ?_
  simp only [a_l8Count, h_l8Left, c_l8Left, List.zipIdx_cons, List.zipIdx_nil, ↓SP, SQ, Gam.add, stepM, callC, argC, lendO, nmBy, nmC, likeL, likeB, plainOb, offs, X, F, trP, trO, stepD, stepW, newA, SV.tr, SV.trL, fz, allP, Ob.tr, loadA, cellsA, SV.cells, binA, binI, eqOut, isSl, isPt, natOf, callee, snap, SV.refsL, SV.refs, thaw, fzAll, loA, hiA, elemOf, partsA, buildA, putCells, ↓reduceIte, reduceCtorEq, okCell, Nat.reduceAdd, Nat.reduceEqDiff, Nat.reduceSub, Nat.reduceMul, Nat.reduceLeDiff, Nat.reduceLT, Nat.reduceBEq, PV.scal, PV.scalL, SV.scal, SV.scalL, Ob.scal, PV.isCell, pure', resO]
  refine loop_at (fun s : Nat × SV × SV => mkEnv [(0, .p (.agg [.sl 1 (ints x), .int .i64 m])), (1, .p (.sl 1 (ints l))), (2, si a), (3, .bx 3 0), (6, si 0), (7, si (cntI x m l a s.1)), (8, si s.1), (13, s.2.1), (21, s.2.2)]) (fun s => mkO [(3, some (.box [.p (.sl 1 (ints x)), si m]))]) (fun s => s.1 ≤ 2 ^ l.length) (fun s => 2 ^ l.length - s.1) (0, .junk, .junk) (by simp) rfl rfl ?_
  rintro ⟨v, c1, c2⟩ hi R hR hN
  simp only at hi
  by_cases h : v < 2 ^ l.length
  · have h1' : (v : Int) < ((2 ^ l.length : Nat) : Int) := Int.ofNat_lt.2 h
    have hw := wrap_one (i := v) (by omega)
    have hle := cntI_le x m l a v
    have hwc := wrap_one (i := cntI x m l a v) (by omega)
    by_cases ha : a ≤ (leftN x m l v : Int)
    · have ha' : (leftN x m l v : Int) ≥ a := ha
      simp only [hsh, hn0, h0, h1, h2, h3, h1', hw, hwc, ha, ha', ← cntI_yes ha, h_l8Left, c_l8Left, ↓SP, SQ, Gam.add, stepM, callC, argC, lendO, nmBy, nmC, likeL, likeB, plainOb, offs, X, F, trP, trO, stepD, stepW, newA, SV.tr, SV.trL, fz, allP, Ob.tr, loadA, cellsA, SV.cells, binA, binI, eqOut, isSl, isPt, natOf, callee, snap, SV.refsL, SV.refs, thaw, fzAll, loA, hiA, elemOf, partsA, buildA, putCells, ↓reduceIte, reduceCtorEq, okCell, Nat.reduceAdd, Nat.reduceEqDiff, Nat.reduceSub, Nat.reduceMul, Nat.reduceLeDiff, Nat.reduceLT, Nat.reduceBEq, PV.scal, PV.scalL, SV.scal, SV.scalL, Ob.scal, PV.isCell, pure', resO]
      exact hN (v + 1, _, _) _ _ (by simp only; omega) (by simp only; omega) rfl rfl
    · have ha' : ¬ (leftN x m l v : Int) ≥ a := ha
      simp only [hsh, hn0, h0, h1, h2, h3, h1', hw, ha, ha', h_l8Left, c_l8Left, ↓SP, SQ, Gam.add, stepM, callC, argC, lendO, nmBy, nmC, likeL, likeB, plainOb, offs, X, F, trP, trO, stepD, stepW, newA, SV.tr, SV.trL, fz, allP, Ob.tr, loadA, cellsA, SV.cells, binA, binI, eqOut, isSl, isPt, natOf, callee, snap, SV.refsL, SV.refs, thaw, fzAll, loA, hiA, elemOf, partsA, buildA, putCells, ↓reduceIte, reduceCtorEq, okCell, Nat.reduceAdd, Nat.reduceEqDiff, Nat.reduceSub, Nat.reduceMul, Nat.reduceLeDiff, Nat.reduceLT, Nat.reduceBEq, PV.scal, PV.scalL, SV.scal, SV.scalL, Ob.scal, PV.isCell, pure', resO]
      exact hN (v + 1, _, _) _ _ (by simp only; omega) (by simp only; omega) (by rw [cntI_no ha]) rfl
  · have he : v = 2 ^ l.length := by omega
    have h1' : ¬ (v : Int) < ((2 ^ l.length : Nat) : Int) := by omega
    simp only [hsh, hn0, h1', ↓SP, SQ, Gam.add, stepM, callC, argC, lendO, nmBy, nmC, likeL, likeB, plainOb, offs, X, F, trP, trO, stepD, stepW, newA, SV.tr, SV.trL, fz, allP, Ob.tr, loadA, cellsA, SV.cells, binA, binI, eqOut, isSl, isPt, natOf, callee, snap, SV.refsL, SV.refs, thaw, fzAll, loA, hiA, elemOf, partsA, buildA, putCells, ↓reduceIte, reduceCtorEq, okCell, Nat.reduceAdd, Nat.reduceEqDiff, Nat.reduceSub, Nat.reduceMul, Nat.reduceLeDiff, Nat.reduceLT, Nat.reduceBEq, PV.scal, PV.scalL, SV.scal, SV.scalL, Ob.scal, PV.isCell, pure', resO]
    refine hR _ _ _ (by intro h; cases h) ?_
    simp only [↓SP, SQ, Gam.add, stepM, callC, argC, lendO, nmBy, nmC, likeL, likeB, plainOb, offs, X, F, trP, trO, stepD, stepW, newA, SV.tr, SV.trL, fz, allP, Ob.tr, loadA, cellsA, SV.cells, binA, binI, eqOut, isSl, isPt, natOf, callee, snap, SV.refsL, SV.refs, thaw, fzAll, loA, hiA, elemOf, partsA, buildA, putCells, ↓reduceIte, reduceCtorEq, okCell, Nat.reduceAdd, Nat.reduceEqDiff, Nat.reduceSub, Nat.reduceMul, Nat.reduceLeDiff, Nat.reduceLT, Nat.reduceBEq, PV.scal, PV.scalL, SV.scal, SV.scalL, Ob.scal, PV.isCell, pure', resO]
    subst he
    exact finA_val (by simp [cntN, retA, rvA, List.mapM_cons, List.mapM_nil, Option.pure_def, Option.bind_eq_bind, Option.bind_some, Option.map_some, mkE_cons, mk_nil, mkO_cons, mkO_nil, loadA, ↓reduceIte, List.take_succ_cons, List.take_zero, List.drop_zero, List.drop_succ_cons, List.length_cons, List.length_nil, Nat.reduceAdd, Nat.reduceEqDiff, Nat.reduceLeDiff, Nat.zero_add, Nat.le_refl, reduceCtorEq, SV.tr, SV.trL, nmF, rn_nil, rn_cons1, rn_cons2, List.map_cons, List.map_nil, List.all_cons, List.all_nil, plainOb, SV.refsL, SV.refs, Ob.refs, X, F, List.range_succ, List.range_zero, List.nil_append, List.cons_append, List.isEmpty_nil, decide_true, Nat.reduceLT, Bool.and_self, Bool.and_true, and_self, and_true, List.getElem?_cons_zero, List.getElem?_cons_succ, List.nodup_cons, List.nodup_nil, List.mem_cons, List.not_mem_nil, not_false_eq_true, or_false, List.append_nil, mkO, setO_mk, List.mem_singleton]) (by simp [SV.tr, SV.trL])
def a_l8Tell (f_l8Count : FuncId) : AFn := ⟨2, 
  .seq (.reg [⟨some 2, none, .w (.box 2 (.t 0))⟩,
    ⟨some 4, none, .d (.mv (.c (.bool false)))⟩])
  (.seq (.reg [⟨some 5, none, .d (.load true 2 (.t 2))⟩,
    ⟨some 6, none, .d (.mv (.t 1))⟩,
    ⟨some 7, none, .d (.call (.f f_l8Count) [(.t 5), (.t 6), (.c (.int .i64 2))])⟩,
    ⟨some 8, none, .d (.bin .arith .eql (.t 7) (.c (.int .i64 0)))⟩,
    ⟨some 4, none, .d (.mv (.t 8))⟩])
  (.ret)), [.tmp 4]⟩
def n_l8Tell : Nat → Option Ann := fun _ => none
abbrev k_l8Tell : List Nat := [0, 1, 2, 4]
abbrev o_l8Tell : List Nat := [2]
def c_l8Tell : Con := pure' fun
  | [.p (.agg [.sl 1 x_, .int .i64 m]), .p (.sl 1 l_)] => if isI x_ = true ∧ isI l_ = true ∧ ((ofI x_).length ≤ 1100000 ∧ (ofI l_).length ≤ 8 ∧ m ≤ 1000 ∧ allSm m (ofI x_) = true) then some (.p (.bool ((cntN (ofI x_) m (ofI l_) 2 : Int) == 0)), []) else none
  | _ => none
theorem s_l8Tell {P : Program} (hm : P.follows .mixedOrders = true) {Γ : Gam} (hΓ : GS P Γ) {n : FuncId} {f_l8Count : FuncId} (is : Is P n (a_l8Tell f_l8Count)) (h_l8Count : Γ f_l8Count = c_count)  : Says P n c_l8Tell := by
  refine Says.pure fun args r fs h => ?_
  split at h
  case h_2 => cases h
  rename_i x_ m l_
  split at h
  case isFalse => cases h
  rename_i hc
  obtain ⟨hx_, hc⟩ := hc
  obtain ⟨x, rfl⟩ := isI_out hx_
  obtain ⟨hl_, hc⟩ := hc
  obtain ⟨l, rfl⟩ := isI_out hl_
  simp only [ofI_ints, ofBo_bools, ofAs_asks, Option.some.injEq, Prod.mk.injEq] at h hc
  obtain ⟨rfl, rfl⟩ := h
  refine is.go hm hΓ k_l8Tell o_l8Tell (by simp [a_l8Tell]) ?_
  simp only [a_l8Tell, h_l8Count, c_count, hc, List.zipIdx_cons, List.zipIdx_nil, ↓SP, SQ, Gam.add, stepM, callC, argC, lendO, nmBy, nmC, likeL, likeB, plainOb, offs, X, F, trP, trO, stepD, stepW, newA, SV.tr, SV.trL, fz, allP, Ob.tr, loadA, cellsA, SV.cells, binA, binI, eqOut, isSl, isPt, natOf, callee, snap, SV.refsL, SV.refs, thaw, fzAll, loA, hiA, elemOf, partsA, buildA, putCells, ↓reduceIte, reduceCtorEq, okCell, Nat.reduceAdd, Nat.reduceEqDiff, Nat.reduceSub, Nat.reduceMul, Nat.reduceLeDiff, Nat.reduceLT, Nat.reduceBEq, PV.scal, PV.scalL, SV.scal, SV.scalL, Ob.scal, PV.isCell, pure', resO]
  exact finA_val (by simp [retA, rvA, List.mapM_cons, List.mapM_nil, Option.pure_def, Option.bind_eq_bind, Option.bind_some, Option.map_some, mkE_cons, mk_nil, mkO_cons, mkO_nil, loadA, ↓reduceIte, List.take_succ_cons, List.take_zero, List.drop_zero, List.drop_succ_cons, List.length_cons, List.length_nil, Nat.reduceAdd, Nat.reduceEqDiff, Nat.reduceLeDiff, Nat.zero_add, Nat.le_refl, reduceCtorEq, SV.tr, SV.trL, nmF, rn_nil, rn_cons1, rn_cons2, List.map_cons, List.map_nil, List.all_cons, List.all_nil, plainOb, SV.refsL, SV.refs, Ob.refs, X, F, List.range_succ, List.range_zero, List.nil_append, List.cons_append, List.isEmpty_nil, decide_true, Nat.reduceLT, Bool.and_self, Bool.and_true, and_self, and_true, List.getElem?_cons_zero, List.getElem?_cons_succ, List.nodup_cons, List.nodup_nil, List.mem_cons, List.not_mem_nil, not_false_eq_true, or_false, List.append_nil, mkO, setO_mk, List.mem_singleton]) (by simp [SV.tr, SV.trL])
theorem isL_fit {x : List Int} {m : Int} {l : List Int} (h : isL x m l = true) : l.length ≤ 8 ∧ m ≤ 1000 ∧ allSm m x = true := by
  obtain ⟨h1, h2⟩ := isL_st h
  have hs := allSm_eq.2 (isSt_small2 h1)
  have hm2 : m ≤ 1000 := by
    simp only [isSt, Bool.and_eq_true, decide_eq_true_eq] at h1; omega
  exact ⟨h2, hm2, hs⟩
def a_CountFair (f_areListed : FuncId) (f_count : FuncId) : AFn := ⟨2, 
  .seq (.reg [⟨some 2, none, .w (.box 2 (.t 0))⟩,
    ⟨some 4, none, .d (.mv (.c (.int .i64 0)))⟩,
    ⟨some 5, none, .d (.mv (.c (.bool false)))⟩])
  (.seq (.seq (.reg [⟨some 6, none, .d (.load true 2 (.t 2))⟩,
    ⟨some 7, none, .d (.mv (.t 1))⟩,
    ⟨some 8, none, .d (.call (.f f_areListed) [(.t 6), (.t 7)])⟩,
    ⟨some 9, none, .d (.not (.t 8))⟩])
  (.cond (.t 9) (.seq (.reg [⟨some 4, none, .d (.mv (.c (.int .i64 0)))⟩,
     ⟨some 5, none, .d (.mv (.c (.bool false)))⟩])
   (.ret)) (.skip)))
  (.seq (.reg [⟨some 10, none, .d (.load true 2 (.t 2))⟩,
    ⟨some 11, none, .d (.mv (.t 1))⟩,
    ⟨some 12, none, .d (.call (.f f_count) [(.t 10), (.t 11), (.c (.int .i64 1))])⟩,
    ⟨some 4, none, .d (.mv (.t 12))⟩,
    ⟨some 5, none, .d (.mv (.c (.bool true)))⟩])
  (.ret))), [.tmp 4, .tmp 5]⟩
def n_CountFair : Nat → Option Ann := fun _ => none
abbrev k_CountFair : List Nat := [0, 1, 2, 4, 5, 9]
abbrev o_CountFair : List Nat := [2]
def a_s_CountFair (f_l8Good : FuncId) (f_l8Count : FuncId) : AFn := ⟨2, 
  .seq (.reg [⟨some 2, none, .w (.box 2 (.t 0))⟩,
    ⟨some 4, none, .d (.mv (.c (.int .i64 0)))⟩,
    ⟨some 5, none, .d (.mv (.c (.bool false)))⟩])
  (.seq (.seq (.reg [⟨some 6, none, .d (.load true 2 (.t 2))⟩,
    ⟨some 7, none, .d (.mv (.t 1))⟩,
    ⟨some 8, none, .d (.call (.f f_l8Good) [(.t 6), (.t 7)])⟩,
    ⟨some 9, none, .d (.not (.t 8))⟩])
  (.cond (.t 9) (.seq (.reg [⟨some 4, none, .d (.mv (.c (.int .i64 0)))⟩,
     ⟨some 5, none, .d (.mv (.c (.bool false)))⟩])
   (.ret)) (.skip)))
  (.seq (.reg [⟨some 10, none, .d (.load true 2 (.t 2))⟩,
    ⟨some 11, none, .d (.mv (.t 1))⟩,
    ⟨some 12, none, .d (.call (.f f_l8Count) [(.t 10), (.t 11), (.c (.int .i64 1))])⟩,
    ⟨some 4, none, .d (.mv (.t 12))⟩,
    ⟨some 5, none, .d (.mv (.c (.bool true)))⟩])
  (.ret))), [.tmp 4, .tmp 5]⟩
def n_s_CountFair : Nat → Option Ann := fun _ => none
abbrev k_s_CountFair : List Nat := [0, 1, 2, 4, 5, 9]
abbrev o_s_CountFair : List Nat := [2]
def c_CountFair : Con := pure' fun
  | [.p (.agg [.sl 1 x_, .int .i64 m]), .p (.sl 1 l_)] => if isI x_ = true ∧ isI l_ = true ∧ ((ofI x_).length ≤ 1100000 ∧ (ofI l_).length ≤ 1100000) then some (.tp [.p (.int .i64 (if isL (ofI x_) m (ofI l_) = true then (cntN (ofI x_) m (ofI l_) 1 : Int) else 0)), .p (.bool (isL (ofI x_) m (ofI l_)))], []) else none
  | _ => none
theorem s_CountFair {P : Program} (hm : P.follows .mixedOrders = true) {Γ : Gam} (hΓ : GS P Γ) {n : FuncId} {f_areListed : FuncId} {f_count : FuncId} (is : Is P n (a_CountFair f_areListed f_count)) (h_areListed : Γ f_areListed = c_areListed) (h_count : Γ f_count = c_count)  : Says P n c_CountFair := by
  refine Says.pure fun args r fs h => ?_
  split at h
  case h_2 => cases h
  rename_i x_ m l_
  split at h
  case isFalse => cases h
  rename_i hc
  obtain ⟨hx_, hc⟩ := hc
  obtain ⟨x, rfl⟩ := isI_out hx_
  obtain ⟨hl_, hc⟩ := hc
  obtain ⟨l, rfl⟩ := isI_out hl_
  simp only [ofI_ints, ofBo_bools, ofAs_asks, Option.some.injEq, Prod.mk.injEq] at h hc
  obtain ⟨rfl, rfl⟩ := h
  cases hL : isL x m l with
  | false =>
    refine is.go hm hΓ k_CountFair o_CountFair (by simp [a_CountFair]) ?_
    simp only [a_CountFair, h_areListed, c_areListed, h_count, c_count, hc, hL, Bool.false_eq_true, Bool.false_and, List.zipIdx_cons, List.zipIdx_nil, ↓SP, SQ, Gam.add, stepM, callC, argC, lendO, nmBy, nmC, likeL, likeB, plainOb, offs, X, F, trP, trO, stepD, stepW, newA, SV.tr, SV.trL, fz, allP, Ob.tr, loadA, cellsA, SV.cells, binA, binI, eqOut, isSl, isPt, natOf, callee, snap, SV.refsL, SV.refs, thaw, fzAll, loA, hiA, elemOf, partsA, buildA, putCells, ↓reduceIte, reduceCtorEq, okCell, Nat.reduceAdd, Nat.reduceEqDiff, Nat.reduceSub, Nat.reduceMul, Nat.reduceLeDiff, Nat.reduceLT, Nat.reduceBEq, PV.scal, PV.scalL, SV.scal, SV.scalL, Ob.scal, PV.isCell, pure', resO]
    exact finA_val (by simp [retA, rvA, List.mapM_cons, List.mapM_nil, Option.pure_def, Option.bind_eq_bind, Option.bind_some, Option.map_some, mkE_cons, mk_nil, mkO_cons, mkO_nil, loadA, ↓reduceIte, List.take_succ_cons, List.take_zero, List.drop_zero, List.drop_succ_cons, List.length_cons, List.length_nil, Nat.reduceAdd, Nat.reduceEqDiff, Nat.reduceLeDiff, Nat.zero_add, Nat.le_refl, reduceCtorEq, SV.tr, SV.trL, nmF, rn_nil, rn_cons1, rn_cons2, List.map_cons, List.map_nil, List.all_cons, List.all_nil, plainOb, SV.refsL, SV.refs, Ob.refs, X, F, List.range_succ, List.range_zero, List.nil_append, List.cons_append, List.isEmpty_nil, decide_true, Nat.reduceLT, Bool.and_self, Bool.and_true, and_self, and_true, List.getElem?_cons_zero, List.getElem?_cons_succ, List.nodup_cons, List.nodup_nil, List.mem_cons, List.not_mem_nil, not_false_eq_true, or_false, List.append_nil, mkO, setO_mk, List.mem_singleton]) (by simp [SV.tr, SV.trL])
  | true =>
    obtain ⟨h1, h2, h3⟩ := isL_fit hL
    refine is.go hm hΓ k_CountFair o_CountFair (by simp [a_CountFair]) ?_
    simp only [a_CountFair, h_areListed, c_areListed, h_count, c_count, hc, hL, h1, h2, h3, Bool.true_and, List.zipIdx_cons, List.zipIdx_nil, ↓SP, SQ, Gam.add, stepM, callC, argC, lendO, nmBy, nmC, likeL, likeB, plainOb, offs, X, F, trP, trO, stepD, stepW, newA, SV.tr, SV.trL, fz, allP, Ob.tr, loadA, cellsA, SV.cells, binA, binI, eqOut, isSl, isPt, natOf, callee, snap, SV.refsL, SV.refs, thaw, fzAll, loA, hiA, elemOf, partsA, buildA, putCells, ↓reduceIte, reduceCtorEq, okCell, Nat.reduceAdd, Nat.reduceEqDiff, Nat.reduceSub, Nat.reduceMul, Nat.reduceLeDiff, Nat.reduceLT, Nat.reduceBEq, PV.scal, PV.scalL, SV.scal, SV.scalL, Ob.scal, PV.isCell, pure', resO]
    exact finA_val (by simp [retA, rvA, List.mapM_cons, List.mapM_nil, Option.pure_def, Option.bind_eq_bind, Option.bind_some, Option.map_some, mkE_cons, mk_nil, mkO_cons, mkO_nil, loadA, ↓reduceIte, List.take_succ_cons, List.take_zero, List.drop_zero, List.drop_succ_cons, List.length_cons, List.length_nil, Nat.reduceAdd, Nat.reduceEqDiff, Nat.reduceLeDiff, Nat.zero_add, Nat.le_refl, reduceCtorEq, SV.tr, SV.trL, nmF, rn_nil, rn_cons1, rn_cons2, List.map_cons, List.map_nil, List.all_cons, List.all_nil, plainOb, SV.refsL, SV.refs, Ob.refs, X, F, List.range_succ, List.range_zero, List.nil_append, List.cons_append, List.isEmpty_nil, decide_true, Nat.reduceLT, Bool.and_self, Bool.and_true, and_self, and_true, List.getElem?_cons_zero, List.getElem?_cons_succ, List.nodup_cons, List.nodup_nil, List.mem_cons, List.not_mem_nil, not_false_eq_true, or_false, List.append_nil, mkO, setO_mk, List.mem_singleton]) (by simp [SV.tr, SV.trL])
theorem s_s_CountFair {P : Program} (hm : P.follows .mixedOrders = true) {Γ : Gam} (hΓ : GS P Γ) {n : FuncId} {f_l8Good : FuncId} {f_l8Count : FuncId} (is : Is P n (a_s_CountFair f_l8Good f_l8Count)) (h_l8Good : Γ f_l8Good = c_areListed) (h_l8Count : Γ f_l8Count = c_count)  : Says P n c_CountFair := by
  refine Says.pure fun args r fs h => ?_
  split at h
  case h_2 => cases h
  rename_i x_ m l_
  split at h
  case isFalse => cases h
  rename_i hc
  obtain ⟨hx_, hc⟩ := hc
  obtain ⟨x, rfl⟩ := isI_out hx_
  obtain ⟨hl_, hc⟩ := hc
  obtain ⟨l, rfl⟩ := isI_out hl_
  simp only [ofI_ints, ofBo_bools, ofAs_asks, Option.some.injEq, Prod.mk.injEq] at h hc
  obtain ⟨rfl, rfl⟩ := h
  cases hL : isL x m l with
  | false =>
    refine is.go hm hΓ k_s_CountFair o_s_CountFair (by simp [a_s_CountFair]) ?_
    simp only [a_s_CountFair, h_l8Good, c_areListed, h_l8Count, c_count, hc, hL, Bool.false_eq_true, Bool.false_and, List.zipIdx_cons, List.zipIdx_nil, ↓SP, SQ, Gam.add, stepM, callC, argC, lendO, nmBy, nmC, likeL, likeB, plainOb, offs, X, F, trP, trO, stepD, stepW, newA, SV.tr, SV.trL, fz, allP, Ob.tr, loadA, cellsA, SV.cells, binA, binI, eqOut, isSl, isPt, natOf, callee, snap, SV.refsL, SV.refs, thaw, fzAll, loA, hiA, elemOf, partsA, buildA, putCells, ↓reduceIte, reduceCtorEq, okCell, Nat.reduceAdd, Nat.reduceEqDiff, Nat.reduceSub, Nat.reduceMul, Nat.reduceLeDiff, Nat.reduceLT, Nat.reduceBEq, PV.scal, PV.scalL, SV.scal, SV.scalL, Ob.scal, PV.isCell, pure', resO]
    exact finA_val (by simp [retA, rvA, List.mapM_cons, List.mapM_nil, Option.pure_def, Option.bind_eq_bind, Option.bind_some, Option.map_some, mkE_cons, mk_nil, mkO_cons, mkO_nil, loadA, ↓reduceIte, List.take_succ_cons, List.take_zero, List.drop_zero, List.drop_succ_cons, List.length_cons, List.length_nil, Nat.reduceAdd, Nat.reduceEqDiff, Nat.reduceLeDiff, Nat.zero_add, Nat.le_refl, reduceCtorEq, SV.tr, SV.trL, nmF, rn_nil, rn_cons1, rn_cons2, List.map_cons, List.map_nil, List.all_cons, List.all_nil, plainOb, SV.refsL, SV.refs, Ob.refs, X, F, List.range_succ, List.range_zero, List.nil_append, List.cons_append, List.isEmpty_nil, decide_true, Nat.reduceLT, Bool.and_self, Bool.and_true, and_self, and_true, List.getElem?_cons_zero, List.getElem?_cons_succ, List.nodup_cons, List.nodup_nil, List.mem_cons, List.not_mem_nil, not_false_eq_true, or_false, List.append_nil, mkO, setO_mk, List.mem_singleton]) (by simp [SV.tr, SV.trL])
  | true =>
    obtain ⟨h1, h2, h3⟩ := isL_fit hL
    refine is.go hm hΓ k_s_CountFair o_s_CountFair (by simp [a_s_CountFair]) ?_
    simp only [a_s_CountFair, h_l8Good, c_areListed, h_l8Count, c_count, hc, hL, h1, h2, h3, Bool.true_and, List.zipIdx_cons, List.zipIdx_nil, ↓SP, SQ, Gam.add, stepM, callC, argC, lendO, nmBy, nmC, likeL, likeB, plainOb, offs, X, F, trP, trO, stepD, stepW, newA, SV.tr, SV.trL, fz, allP, Ob.tr, loadA, cellsA, SV.cells, binA, binI, eqOut, isSl, isPt, natOf, callee, snap, SV.refsL, SV.refs, thaw, fzAll, loA, hiA, elemOf, partsA, buildA, putCells, ↓reduceIte, reduceCtorEq, okCell, Nat.reduceAdd, Nat.reduceEqDiff, Nat.reduceSub, Nat.reduceMul, Nat.reduceLeDiff, Nat.reduceLT, Nat.reduceBEq, PV.scal, PV.scalL, SV.scal, SV.scalL, Ob.scal, PV.isCell, pure', resO]
    exact finA_val (by simp [retA, rvA, List.mapM_cons, List.mapM_nil, Option.pure_def, Option.bind_eq_bind, Option.bind_some, Option.map_some, mkE_cons, mk_nil, mkO_cons, mkO_nil, loadA, ↓reduceIte, List.take_succ_cons, List.take_zero, List.drop_zero, List.drop_succ_cons, List.length_cons, List.length_nil, Nat.reduceAdd, Nat.reduceEqDiff, Nat.reduceLeDiff, Nat.zero_add, Nat.le_refl, reduceCtorEq, SV.tr, SV.trL, nmF, rn_nil, rn_cons1, rn_cons2, List.map_cons, List.map_nil, List.all_cons, List.all_nil, plainOb, SV.refsL, SV.refs, Ob.refs, X, F, List.range_succ, List.range_zero, List.nil_append, List.cons_append, List.isEmpty_nil, decide_true, Nat.reduceLT, Bool.and_self, Bool.and_true, and_self, and_true, List.getElem?_cons_zero, List.getElem?_cons_succ, List.nodup_cons, List.nodup_nil, List.mem_cons, List.not_mem_nil, not_false_eq_true, or_false, List.append_nil, mkO, setO_mk, List.mem_singleton]) (by simp [SV.tr, SV.trL])
def a_CountHolding (f_areListed : FuncId) (f_count : FuncId) : AFn := ⟨2, 
  .seq (.reg [⟨some 2, none, .w (.box 2 (.t 0))⟩,
    ⟨some 4, none, .d (.mv (.c (.int .i64 0)))⟩,
    ⟨some 5, none, .d (.mv (.c (.bool false)))⟩])
  (.seq (.seq (.reg [⟨some 6, none, .d (.load true 2 (.t 2))⟩,
    ⟨some 7, none, .d (.mv (.t 1))⟩,
    ⟨some 8, none, .d (.call (.f f_areListed) [(.t 6), (.t 7)])⟩,
    ⟨some 9, none, .d (.not (.t 8))⟩])
  (.cond (.t 9) (.seq (.reg [⟨some 4, none, .d (.mv (.c (.int .i64 0)))⟩,
     ⟨some 5, none, .d (.mv (.c (.bool false)))⟩])
   (.ret)) (.skip)))
  (.seq (.reg [⟨some 10, none, .d (.load true 2 (.t 2))⟩,
    ⟨some 11, none, .d (.mv (.t 1))⟩,
    ⟨some 12, none, .d (.call (.f f_count) [(.t 10), (.t 11), (.c (.int .i64 2))])⟩,
    ⟨some 4, none, .d (.mv (.t 12))⟩,
    ⟨some 5, none, .d (.mv (.c (.bool true)))⟩])
  (.ret))), [.tmp 4, .tmp 5]⟩
def n_CountHolding : Nat → Option Ann := fun _ => none
abbrev k_CountHolding : List Nat := [0, 1, 2, 4, 5, 9]
abbrev o_CountHolding : List Nat := [2]
def a_s_CountHolding (f_l8Good : FuncId) (f_l8Count : FuncId) : AFn := ⟨2, 
  .seq (.reg [⟨some 2, none, .w (.box 2 (.t 0))⟩,
    ⟨some 4, none, .d (.mv (.c (.int .i64 0)))⟩,
    ⟨some 5, none, .d (.mv (.c (.bool false)))⟩])
  (.seq (.seq (.reg [⟨some 6, none, .d (.load true 2 (.t 2))⟩,
    ⟨some 7, none, .d (.mv (.t 1))⟩,
    ⟨some 8, none, .d (.call (.f f_l8Good) [(.t 6), (.t 7)])⟩,
    ⟨some 9, none, .d (.not (.t 8))⟩])
  (.cond (.t 9) (.seq (.reg [⟨some 4, none, .d (.mv (.c (.int .i64 0)))⟩,
     ⟨some 5, none, .d (.mv (.c (.bool false)))⟩])
   (.ret)) (.skip)))
  (.seq (.reg [⟨some 10, none, .d (.load true 2 (.t 2))⟩,
    ⟨some 11, none, .d (.mv (.t 1))⟩,
    ⟨some 12, none, .d (.call (.f f_l8Count) [(.t 10), (.t 11), (.c (.int .i64 2))])⟩,
    ⟨some 4, none, .d (.mv (.t 12))⟩,
    ⟨some 5, none, .d (.mv (.c (.bool true)))⟩])
  (.ret))), [.tmp 4, .tmp 5]⟩
def n_s_CountHolding : Nat → Option Ann := fun _ => none
abbrev k_s_CountHolding : List Nat := [0, 1, 2, 4, 5, 9]
abbrev o_s_CountHolding : List Nat := [2]
def c_CountHolding : Con := pure' fun
  | [.p (.agg [.sl 1 x_, .int .i64 m]), .p (.sl 1 l_)] => if isI x_ = true ∧ isI l_ = true ∧ ((ofI x_).length ≤ 1100000 ∧ (ofI l_).length ≤ 1100000) then some (.tp [.p (.int .i64 (if isL (ofI x_) m (ofI l_) = true then (cntN (ofI x_) m (ofI l_) 2 : Int) else 0)), .p (.bool (isL (ofI x_) m (ofI l_)))], []) else none
  | _ => none
theorem s_CountHolding {P : Program} (hm : P.follows .mixedOrders = true) {Γ : Gam} (hΓ : GS P Γ) {n : FuncId} {f_areListed : FuncId} {f_count : FuncId} (is : Is P n (a_CountHolding f_areListed f_count)) (h_areListed : Γ f_areListed = c_areListed) (h_count : Γ f_count = c_count)  : Says P n c_CountHolding := by
  refine Says.pure fun args r fs h => ?_
  split at h
  case h_2 => cases h
  rename_i x_ m l_
  split at h
  case isFalse => cases h
  rename_i hc
  obtain ⟨hx_, hc⟩ := hc
  obtain ⟨x, rfl⟩ := isI_out hx_
  obtain ⟨hl_, hc⟩ := hc
  obtain ⟨l, rfl⟩ := isI_out hl_
  simp only [ofI_ints, ofBo_bools, ofAs_asks, Option.some.injEq, Prod.mk.injEq] at h hc
  obtain ⟨rfl, rfl⟩ := h
  cases hL : isL x m l with
  | false =>
    refine is.go hm hΓ k_CountHolding o_CountHolding (by simp [a_CountHolding]) ?_
    simp only [a_CountHolding, h_areListed, c_areListed, h_count, c_count, hc, hL, Bool.false_eq_true, Bool.false_and, List.zipIdx_cons, List.zipIdx_nil, ↓SP, SQ, Gam.add, stepM, callC, argC, lendO, nmBy, nmC, likeL, likeB, plainOb, offs, X, F, trP, trO, stepD, stepW, newA, SV.tr, SV.trL, fz, allP, Ob.tr, loadA, cellsA, SV.cells, binA, binI, eqOut, isSl, isPt, natOf, callee, snap, SV.refsL, SV.refs, thaw, fzAll, loA, hiA, elemOf, partsA, buildA, putCells, ↓reduceIte, reduceCtorEq, okCell, Nat.reduceAdd, Nat.reduceEqDiff, Nat.reduceSub, Nat.reduceMul, Nat.reduceLeDiff, Nat.reduceLT, Nat.reduceBEq, PV.scal, PV.scalL, SV.scal, SV.scalL, Ob.scal, PV.isCell, pure', resO]
    exact finA_val (by simp [retA, rvA, List.mapM_cons, List.mapM_nil, Option.pure_def, Option.bind_eq_bind, Option.bind_some, Option.map_some, mkE_cons, mk_nil, mkO_cons, mkO_nil, loadA, ↓reduceIte, List.take_succ_cons, List.take_zero, List.drop_zero, List.drop_succ_cons, List.length_cons, List.length_nil, Nat.reduceAdd, Nat.reduceEqDiff, Nat.reduceLeDiff, Nat.zero_add, Nat.le_refl, reduceCtorEq, SV.tr, SV.trL, nmF, rn_nil, rn_cons1, rn_cons2, List.map_cons, List.map_nil, List.all_cons, List.all_nil, plainOb, SV.refsL, SV.refs, Ob.refs, X, F, List.range_succ, List.range_zero, List.nil_append, List.cons_append, List.isEmpty_nil, decide_true, Nat.reduceLT, Bool.and_self, Bool.and_true, and_self, and_true, List.getElem?_cons_zero, List.getElem?_cons_succ, List.nodup_cons, List.nodup_nil, List.mem_cons, List.not_mem_nil, not_false_eq_true, or_false, List.append_nil, mkO, setO_mk, List.mem_singleton]) (by simp [SV.tr, SV.trL])
  | true =>
    obtain ⟨h1, h2, h3⟩ := isL_fit hL
    refine is.go hm hΓ k_CountHolding o_CountHolding (by simp [a_CountHolding]) ?_
    simp only [a_CountHolding, h_areListed, c_areListed, h_count, c_count, hc, hL, h1, h2, h3, Bool.true_and, List.zipIdx_cons, List.zipIdx_nil, ↓SP, SQ, Gam.add, stepM, callC, argC, lendO, nmBy, nmC, likeL, likeB, plainOb, offs, X, F, trP, trO, stepD, stepW, newA, SV.tr, SV.trL, fz, allP, Ob.tr, loadA, cellsA, SV.cells, binA, binI, eqOut, isSl, isPt, natOf, callee, snap, SV.refsL, SV.refs, thaw, fzAll, loA, hiA, elemOf, partsA, buildA, putCells, ↓reduceIte, reduceCtorEq, okCell, Nat.reduceAdd, Nat.reduceEqDiff, Nat.reduceSub, Nat.reduceMul, Nat.reduceLeDiff, Nat.reduceLT, Nat.reduceBEq, PV.scal, PV.scalL, SV.scal, SV.scalL, Ob.scal, PV.isCell, pure', resO]
    exact finA_val (by simp [retA, rvA, List.mapM_cons, List.mapM_nil, Option.pure_def, Option.bind_eq_bind, Option.bind_some, Option.map_some, mkE_cons, mk_nil, mkO_cons, mkO_nil, loadA, ↓reduceIte, List.take_succ_cons, List.take_zero, List.drop_zero, List.drop_succ_cons, List.length_cons, List.length_nil, Nat.reduceAdd, Nat.reduceEqDiff, Nat.reduceLeDiff, Nat.zero_add, Nat.le_refl, reduceCtorEq, SV.tr, SV.trL, nmF, rn_nil, rn_cons1, rn_cons2, List.map_cons, List.map_nil, List.all_cons, List.all_nil, plainOb, SV.refsL, SV.refs, Ob.refs, X, F, List.range_succ, List.range_zero, List.nil_append, List.cons_append, List.isEmpty_nil, decide_true, Nat.reduceLT, Bool.and_self, Bool.and_true, and_self, and_true, List.getElem?_cons_zero, List.getElem?_cons_succ, List.nodup_cons, List.nodup_nil, List.mem_cons, List.not_mem_nil, not_false_eq_true, or_false, List.append_nil, mkO, setO_mk, List.mem_singleton]) (by simp [SV.tr, SV.trL])
theorem s_s_CountHolding {P : Program} (hm : P.follows .mixedOrders = true) {Γ : Gam} (hΓ : GS P Γ) {n : FuncId} {f_l8Good : FuncId} {f_l8Count : FuncId} (is : Is P n (a_s_CountHolding f_l8Good f_l8Count)) (h_l8Good : Γ f_l8Good = c_areListed) (h_l8Count : Γ f_l8Count = c_count)  : Says P n c_CountHolding := by
  refine Says.pure fun args r fs h => ?_
  split at h
  case h_2 => cases h
  rename_i x_ m l_
  split at h
  case isFalse => cases h
  rename_i hc
  obtain ⟨hx_, hc⟩ := hc
  obtain ⟨x, rfl⟩ := isI_out hx_
  obtain ⟨hl_, hc⟩ := hc
  obtain ⟨l, rfl⟩ := isI_out hl_
  simp only [ofI_ints, ofBo_bools, ofAs_asks, Option.some.injEq, Prod.mk.injEq] at h hc
  obtain ⟨rfl, rfl⟩ := h
  cases hL : isL x m l with
  | false =>
    refine is.go hm hΓ k_s_CountHolding o_s_CountHolding (by simp [a_s_CountHolding]) ?_
    simp only [a_s_CountHolding, h_l8Good, c_areListed, h_l8Count, c_count, hc, hL, Bool.false_eq_true, Bool.false_and, List.zipIdx_cons, List.zipIdx_nil, ↓SP, SQ, Gam.add, stepM, callC, argC, lendO, nmBy, nmC, likeL, likeB, plainOb, offs, X, F, trP, trO, stepD, stepW, newA, SV.tr, SV.trL, fz, allP, Ob.tr, loadA, cellsA, SV.cells, binA, binI, eqOut, isSl, isPt, natOf, callee, snap, SV.refsL, SV.refs, thaw, fzAll, loA, hiA, elemOf, partsA, buildA, putCells, ↓reduceIte, reduceCtorEq, okCell, Nat.reduceAdd, Nat.reduceEqDiff, Nat.reduceSub, Nat.reduceMul, Nat.reduceLeDiff, Nat.reduceLT, Nat.reduceBEq, PV.scal, PV.scalL, SV.scal, SV.scalL, Ob.scal, PV.isCell, pure', resO]
    exact finA_val (by simp [retA, rvA, List.mapM_cons, List.mapM_nil, Option.pure_def, Option.bind_eq_bind, Option.bind_some, Option.map_some, mkE_cons, mk_nil, mkO_cons, mkO_nil, loadA, ↓reduceIte, List.take_succ_cons, List.take_zero, List.drop_zero, List.drop_succ_cons, List.length_cons, List.length_nil, Nat.reduceAdd, Nat.reduceEqDiff, Nat.reduceLeDiff, Nat.zero_add, Nat.le_refl, reduceCtorEq, SV.tr, SV.trL, nmF, rn_nil, rn_cons1, rn_cons2, List.map_cons, List.map_nil, List.all_cons, List.all_nil, plainOb, SV.refsL, SV.refs, Ob.refs, X, F, List.range_succ, List.range_zero, List.nil_append, List.cons_append, List.isEmpty_nil, decide_true, Nat.reduceLT, Bool.and_self, Bool.and_true, and_self, and_true, List.getElem?_cons_zero, List.getElem?_cons_succ, List.nodup_cons, List.nodup_nil, List.mem_cons, List.not_mem_nil, not_false_eq_true, or_false, List.append_nil, mkO, setO_mk, List.mem_singleton]) (by simp [SV.tr, SV.trL])
  | true =>
    obtain ⟨h1, h2, h3⟩ := isL_fit hL
    refine is.go hm hΓ k_s_CountHolding o_s_CountHolding (by simp [a_s_CountHolding]) ?_
    simp only [a_s_CountHolding, h_l8Good, c_areListed, h_l8Count, c_count, hc, hL, h1, h2, h3, Bool.true_and, List.zipIdx_cons, List.zipIdx_nil, ↓SP, SQ, Gam.add, stepM, callC, argC, lendO, nmBy, nmC, likeL, likeB, plainOb, offs, X, F, trP, trO, stepD, stepW, newA, SV.tr, SV.trL, fz, allP, Ob.tr, loadA, cellsA, SV.cells, binA, binI, eqOut, isSl, isPt, natOf, callee, snap, SV.refsL, SV.refs, thaw, fzAll, loA, hiA, elemOf, partsA, buildA, putCells, ↓reduceIte, reduceCtorEq, okCell, Nat.reduceAdd, Nat.reduceEqDiff, Nat.reduceSub, Nat.reduceMul, Nat.reduceLeDiff, Nat.reduceLT, Nat.reduceBEq, PV.scal, PV.scalL, SV.scal, SV.scalL, Ob.scal, PV.isCell, pure', resO]
    exact finA_val (by simp [retA, rvA, List.mapM_cons, List.mapM_nil, Option.pure_def, Option.bind_eq_bind, Option.bind_some, Option.map_some, mkE_cons, mk_nil, mkO_cons, mkO_nil, loadA, ↓reduceIte, List.take_succ_cons, List.take_zero, List.drop_zero, List.drop_succ_cons, List.length_cons, List.length_nil, Nat.reduceAdd, Nat.reduceEqDiff, Nat.reduceLeDiff, Nat.zero_add, Nat.le_refl, reduceCtorEq, SV.tr, SV.trL, nmF, rn_nil, rn_cons1, rn_cons2, List.map_cons, List.map_nil, List.all_cons, List.all_nil, plainOb, SV.refsL, SV.refs, Ob.refs, X, F, List.range_succ, List.range_zero, List.nil_append, List.cons_append, List.isEmpty_nil, decide_true, Nat.reduceLT, Bool.and_self, Bool.and_true, and_self, and_true, List.getElem?_cons_zero, List.getElem?_cons_succ, List.nodup_cons, List.nodup_nil, List.mem_cons, List.not_mem_nil, not_false_eq_true, or_false, List.append_nil, mkO, setO_mk, List.mem_singleton]) (by simp [SV.tr, SV.trL])
def a_DoTell (f_areListed : FuncId) (f_count : FuncId) : AFn := ⟨2, 
  .seq (.reg [⟨some 2, none, .w (.box 2 (.t 0))⟩,
    ⟨some 4, none, .d (.mv (.c (.bool false)))⟩,
    ⟨some 5, none, .d (.mv (.c (.bool false)))⟩])
  (.seq (.seq (.reg [⟨some 6, none, .d (.load true 2 (.t 2))⟩,
    ⟨some 7, none, .d (.mv (.t 1))⟩,
    ⟨some 8, none, .d (.call (.f f_areListed) [(.t 6), (.t 7)])⟩,
    ⟨some 9, none, .d (.not (.t 8))⟩])
  (.cond (.t 9) (.seq (.reg [⟨some 4, none, .d (.mv (.c (.bool false)))⟩,
     ⟨some 5, none, .d (.mv (.c (.bool false)))⟩])
   (.ret)) (.skip)))
  (.seq (.reg [⟨some 10, none, .d (.load true 2 (.t 2))⟩,
    ⟨some 11, none, .d (.mv (.t 1))⟩,
    ⟨some 12, none, .d (.call (.f f_count) [(.t 10), (.t 11), (.c (.int .i64 2))])⟩,
    ⟨some 13, none, .d (.bin .arith .eql (.t 12) (.c (.int .i64 0)))⟩,
    ⟨some 4, none, .d (.mv (.t 13))⟩,
    ⟨some 5, none, .d (.mv (.c (.bool true)))⟩])
  (.ret))), [.tmp 4, .tmp 5]⟩
def n_DoTell : Nat → Option Ann := fun _ => none
abbrev k_DoTell : List Nat := [0, 1, 2, 4, 5, 9]
abbrev o_DoTell : List Nat := [2]
def a_s_DoTell (f_l8Good : FuncId) (f_l8Tell : FuncId) : AFn := ⟨2, 
  .seq (.reg [⟨some 2, none, .w (.box 2 (.t 0))⟩,
    ⟨some 4, none, .d (.mv (.c (.bool false)))⟩,
    ⟨some 5, none, .d (.mv (.c (.bool false)))⟩])
  (.seq (.seq (.reg [⟨some 6, none, .d (.load true 2 (.t 2))⟩,
    ⟨some 7, none, .d (.mv (.t 1))⟩,
    ⟨some 8, none, .d (.call (.f f_l8Good) [(.t 6), (.t 7)])⟩,
    ⟨some 9, none, .d (.not (.t 8))⟩])
  (.cond (.t 9) (.seq (.reg [⟨some 4, none, .d (.mv (.c (.bool false)))⟩,
     ⟨some 5, none, .d (.mv (.c (.bool false)))⟩])
   (.ret)) (.skip)))
  (.seq (.reg [⟨some 10, none, .d (.load true 2 (.t 2))⟩,
    ⟨some 11, none, .d (.mv (.t 1))⟩,
    ⟨some 12, none, .d (.call (.f f_l8Tell) [(.t 10), (.t 11)])⟩,
    ⟨some 4, none, .d (.mv (.t 12))⟩,
    ⟨some 5, none, .d (.mv (.c (.bool true)))⟩])
  (.ret))), [.tmp 4, .tmp 5]⟩
def n_s_DoTell : Nat → Option Ann := fun _ => none
abbrev k_s_DoTell : List Nat := [0, 1, 2, 4, 5, 9]
abbrev o_s_DoTell : List Nat := [2]
def c_DoTell : Con := pure' fun
  | [.p (.agg [.sl 1 x_, .int .i64 m]), .p (.sl 1 l_)] => if isI x_ = true ∧ isI l_ = true ∧ ((ofI x_).length ≤ 1100000 ∧ (ofI l_).length ≤ 1100000) then some (.tp [.p (.bool (isL (ofI x_) m (ofI l_) && ((cntN (ofI x_) m (ofI l_) 2 : Int) == 0))), .p (.bool (isL (ofI x_) m (ofI l_)))], []) else none
  | _ => none
theorem s_DoTell {P : Program} (hm : P.follows .mixedOrders = true) {Γ : Gam} (hΓ : GS P Γ) {n : FuncId} {f_areListed : FuncId} {f_count : FuncId} (is : Is P n (a_DoTell f_areListed f_count)) (h_areListed : Γ f_areListed = c_areListed) (h_count : Γ f_count = c_count)  : Says P n c_DoTell := by
  refine Says.pure fun args r fs h => ?_
  split at h
  case h_2 => cases h
  rename_i x_ m l_
  split at h
  case isFalse => cases h
  rename_i hc
  obtain ⟨hx_, hc⟩ := hc
  obtain ⟨x, rfl⟩ := isI_out hx_
  obtain ⟨hl_, hc⟩ := hc
  obtain ⟨l, rfl⟩ := isI_out hl_
  simp only [ofI_ints, ofBo_bools, ofAs_asks, Option.some.injEq, Prod.mk.injEq] at h hc
  obtain ⟨rfl, rfl⟩ := h
  cases hL : isL x m l with
  | false =>
    refine is.go hm hΓ k_DoTell o_DoTell (by simp [a_DoTell]) ?_
    simp only [a_DoTell, h_areListed, c_areListed, h_count, c_count, hc, hL, Bool.false_eq_true, Bool.false_and, List.zipIdx_cons, List.zipIdx_nil, ↓SP, SQ, Gam.add, stepM, callC, argC, lendO, nmBy, nmC, likeL, likeB, plainOb, offs, X, F, trP, trO, stepD, stepW, newA, SV.tr, SV.trL, fz, allP, Ob.tr, loadA, cellsA, SV.cells, binA, binI, eqOut, isSl, isPt, natOf, callee, snap, SV.refsL, SV.refs, thaw, fzAll, loA, hiA, elemOf, partsA, buildA, putCells, ↓reduceIte, reduceCtorEq, okCell, Nat.reduceAdd, Nat.reduceEqDiff, Nat.reduceSub, Nat.reduceMul, Nat.reduceLeDiff, Nat.reduceLT, Nat.reduceBEq, PV.scal, PV.scalL, SV.scal, SV.scalL, Ob.scal, PV.isCell, pure', resO]
    exact finA_val (by simp [retA, rvA, List.mapM_cons, List.mapM_nil, Option.pure_def, Option.bind_eq_bind, Option.bind_some, Option.map_some, mkE_cons, mk_nil, mkO_cons, mkO_nil, loadA, ↓reduceIte, List.take_succ_cons, List.take_zero, List.drop_zero, List.drop_succ_cons, List.length_cons, List.length_nil, Nat.reduceAdd, Nat.reduceEqDiff, Nat.reduceLeDiff, Nat.zero_add, Nat.le_refl, reduceCtorEq, SV.tr, SV.trL, nmF, rn_nil, rn_cons1, rn_cons2, List.map_cons, List.map_nil, List.all_cons, List.all_nil, plainOb, SV.refsL, SV.refs, Ob.refs, X, F, List.range_succ, List.range_zero, List.nil_append, List.cons_append, List.isEmpty_nil, decide_true, Nat.reduceLT, Bool.and_self, Bool.and_true, and_self, and_true, List.getElem?_cons_zero, List.getElem?_cons_succ, List.nodup_cons, List.nodup_nil, List.mem_cons, List.not_mem_nil, not_false_eq_true, or_false, List.append_nil, mkO, setO_mk, List.mem_singleton]) (by simp [SV.tr, SV.trL])
  | true =>
    obtain ⟨h1, h2, h3⟩ := isL_fit hL
    refine is.go hm hΓ k_DoTell o_DoTell (by simp [a_DoTell]) ?_
    simp only [a_DoTell, h_areListed, c_areListed, h_count, c_count, hc, hL, h1, h2, h3, Bool.true_and, List.zipIdx_cons, List.zipIdx_nil, ↓SP, SQ, Gam.add, stepM, callC, argC, lendO, nmBy, nmC, likeL, likeB, plainOb, offs, X, F, trP, trO, stepD, stepW, newA, SV.tr, SV.trL, fz, allP, Ob.tr, loadA, cellsA, SV.cells, binA, binI, eqOut, isSl, isPt, natOf, callee, snap, SV.refsL, SV.refs, thaw, fzAll, loA, hiA, elemOf, partsA, buildA, putCells, ↓reduceIte, reduceCtorEq, okCell, Nat.reduceAdd, Nat.reduceEqDiff, Nat.reduceSub, Nat.reduceMul, Nat.reduceLeDiff, Nat.reduceLT, Nat.reduceBEq, PV.scal, PV.scalL, SV.scal, SV.scalL, Ob.scal, PV.isCell, pure', resO]
    exact finA_val (by simp [retA, rvA, List.mapM_cons, List.mapM_nil, Option.pure_def, Option.bind_eq_bind, Option.bind_some, Option.map_some, mkE_cons, mk_nil, mkO_cons, mkO_nil, loadA, ↓reduceIte, List.take_succ_cons, List.take_zero, List.drop_zero, List.drop_succ_cons, List.length_cons, List.length_nil, Nat.reduceAdd, Nat.reduceEqDiff, Nat.reduceLeDiff, Nat.zero_add, Nat.le_refl, reduceCtorEq, SV.tr, SV.trL, nmF, rn_nil, rn_cons1, rn_cons2, List.map_cons, List.map_nil, List.all_cons, List.all_nil, plainOb, SV.refsL, SV.refs, Ob.refs, X, F, List.range_succ, List.range_zero, List.nil_append, List.cons_append, List.isEmpty_nil, decide_true, Nat.reduceLT, Bool.and_self, Bool.and_true, and_self, and_true, List.getElem?_cons_zero, List.getElem?_cons_succ, List.nodup_cons, List.nodup_nil, List.mem_cons, List.not_mem_nil, not_false_eq_true, or_false, List.append_nil, mkO, setO_mk, List.mem_singleton]) (by simp [SV.tr, SV.trL])
theorem s_s_DoTell {P : Program} (hm : P.follows .mixedOrders = true) {Γ : Gam} (hΓ : GS P Γ) {n : FuncId} {f_l8Good : FuncId} {f_l8Tell : FuncId} (is : Is P n (a_s_DoTell f_l8Good f_l8Tell)) (h_l8Good : Γ f_l8Good = c_areListed) (h_l8Tell : Γ f_l8Tell = c_l8Tell)  : Says P n c_DoTell := by
  refine Says.pure fun args r fs h => ?_
  split at h
  case h_2 => cases h
  rename_i x_ m l_
  split at h
  case isFalse => cases h
  rename_i hc
  obtain ⟨hx_, hc⟩ := hc
  obtain ⟨x, rfl⟩ := isI_out hx_
  obtain ⟨hl_, hc⟩ := hc
  obtain ⟨l, rfl⟩ := isI_out hl_
  simp only [ofI_ints, ofBo_bools, ofAs_asks, Option.some.injEq, Prod.mk.injEq] at h hc
  obtain ⟨rfl, rfl⟩ := h
  cases hL : isL x m l with
  | false =>
    refine is.go hm hΓ k_s_DoTell o_s_DoTell (by simp [a_s_DoTell]) ?_
    simp only [a_s_DoTell, h_l8Good, c_areListed, h_l8Tell, c_l8Tell, hc, hL, Bool.false_eq_true, Bool.false_and, List.zipIdx_cons, List.zipIdx_nil, ↓SP, SQ, Gam.add, stepM, callC, argC, lendO, nmBy, nmC, likeL, likeB, plainOb, offs, X, F, trP, trO, stepD, stepW, newA, SV.tr, SV.trL, fz, allP, Ob.tr, loadA, cellsA, SV.cells, binA, binI, eqOut, isSl, isPt, natOf, callee, snap, SV.refsL, SV.refs, thaw, fzAll, loA, hiA, elemOf, partsA, buildA, putCells, ↓reduceIte, reduceCtorEq, okCell, Nat.reduceAdd, Nat.reduceEqDiff, Nat.reduceSub, Nat.reduceMul, Nat.reduceLeDiff, Nat.reduceLT, Nat.reduceBEq, PV.scal, PV.scalL, SV.scal, SV.scalL, Ob.scal, PV.isCell, pure', resO]
    exact finA_val (by simp [retA, rvA, List.mapM_cons, List.mapM_nil, Option.pure_def, Option.bind_eq_bind, Option.bind_some, Option.map_some, mkE_cons, mk_nil, mkO_cons, mkO_nil, loadA, ↓reduceIte, List.take_succ_cons, List.take_zero, List.drop_zero, List.drop_succ_cons, List.length_cons, List.length_nil, Nat.reduceAdd, Nat.reduceEqDiff, Nat.reduceLeDiff, Nat.zero_add, Nat.le_refl, reduceCtorEq, SV.tr, SV.trL, nmF, rn_nil, rn_cons1, rn_cons2, List.map_cons, List.map_nil, List.all_cons, List.all_nil, plainOb, SV.refsL, SV.refs, Ob.refs, X, F, List.range_succ, List.range_zero, List.nil_append, List.cons_append, List.isEmpty_nil, decide_true, Nat.reduceLT, Bool.and_self, Bool.and_true, and_self, and_true, List.getElem?_cons_zero, List.getElem?_cons_succ, List.nodup_cons, List.nodup_nil, List.mem_cons, List.not_mem_nil, not_false_eq_true, or_false, List.append_nil, mkO, setO_mk, List.mem_singleton]) (by simp [SV.tr, SV.trL])
  | true =>
    obtain ⟨h1, h2, h3⟩ := isL_fit hL
    refine is.go hm hΓ k_s_DoTell o_s_DoTell (by simp [a_s_DoTell]) ?_
    simp only [a_s_DoTell, h_l8Good, c_areListed, h_l8Tell, c_l8Tell, hc, hL, h1, h2, h3, Bool.true_and, List.zipIdx_cons, List.zipIdx_nil, ↓SP, SQ, Gam.add, stepM, callC, argC, lendO, nmBy, nmC, likeL, likeB, plainOb, offs, X, F, trP, trO, stepD, stepW, newA, SV.tr, SV.trL, fz, allP, Ob.tr, loadA, cellsA, SV.cells, binA, binI, eqOut, isSl, isPt, natOf, callee, snap, SV.refsL, SV.refs, thaw, fzAll, loA, hiA, elemOf, partsA, buildA, putCells, ↓reduceIte, reduceCtorEq, okCell, Nat.reduceAdd, Nat.reduceEqDiff, Nat.reduceSub, Nat.reduceMul, Nat.reduceLeDiff, Nat.reduceLT, Nat.reduceBEq, PV.scal, PV.scalL, SV.scal, SV.scalL, Ob.scal, PV.isCell, pure', resO]
    exact finA_val (by simp [retA, rvA, List.mapM_cons, List.mapM_nil, Option.pure_def, Option.bind_eq_bind, Option.bind_some, Option.map_some, mkE_cons, mk_nil, mkO_cons, mkO_nil, loadA, ↓reduceIte, List.take_succ_cons, List.take_zero, List.drop_zero, List.drop_succ_cons, List.length_cons, List.length_nil, Nat.reduceAdd, Nat.reduceEqDiff, Nat.reduceLeDiff, Nat.zero_add, Nat.le_refl, reduceCtorEq, SV.tr, SV.trL, nmF, rn_nil, rn_cons1, rn_cons2, List.map_cons, List.map_nil, List.all_cons, List.all_nil, plainOb, SV.refsL, SV.refs, Ob.refs, X, F, List.range_succ, List.range_zero, List.nil_append, List.cons_append, List.isEmpty_nil, decide_true, Nat.reduceLT, Bool.and_self, Bool.and_true, and_self, and_true, List.getElem?_cons_zero, List.getElem?_cons_succ, List.nodup_cons, List.nodup_nil, List.mem_cons, List.not_mem_nil, not_false_eq_true, or_false, List.append_nil, mkO, setO_mk, List.mem_singleton]) (by simp [SV.tr, SV.trL])
/-- The longest start of a list that does not tell, of those shorter than i. -/
def longI (x : List Int) (m : Int) (l : List Int) : Nat → Int
  | 0 => -1
  | i + 1 => if (cntN x m (l.take i) 2 : Int) > 0 then (i : Int) else longI x m l i
def a_LongestHold (f_areListed : FuncId) (f_count : FuncId) : AFn := ⟨2, 
  .seq (.reg [⟨some 2, none, .w (.box 2 (.t 0))⟩,
    ⟨some 4, none, .d (.mv (.c (.int .i64 0)))⟩,
    ⟨some 5, none, .d (.mv (.c (.bool false)))⟩])
  (.seq (.seq (.reg [⟨some 8, none, .d (.load true 2 (.t 2))⟩,
    ⟨some 9, none, .d (.mv (.t 1))⟩,
    ⟨some 10, none, .d (.call (.f f_areListed) [(.t 8), (.t 9)])⟩,
    ⟨some 11, none, .d (.not (.t 10))⟩])
  (.cond (.t 11) (.seq (.reg [⟨some 4, none, .d (.mv (.c (.int .i64 0)))⟩,
     ⟨some 5, none, .d (.mv (.c (.bool false)))⟩])
   (.ret)) (.skip)))
  (.seq (.reg [⟨some 6, none, .d (.mv (.c (.int .i64 (-1))))⟩])
  (.seq (.seq (.reg [⟨some 12, none, .d (.mv (.t 1))⟩,
    ⟨some 13, none, .d (.len (.t 12))⟩,
    ⟨some 14, none, .d (.bin .arith .add (.t 13) (.c (.int .i64 1)))⟩,
    ⟨some 15, none, .d (.mv (.c (.int .i64 0)))⟩])
  (.block 0 (.loop (.seq (.reg [⟨some 16, none, .d (.bin .arith .lss (.t 15) (.t 14))⟩])
    (.seq (.cond (.t 16) (.skip) (.exit 0))
    (.seq (.block 1 (.seq (.reg [⟨some 17, none, .d (.mv (.t 15))⟩,
       ⟨some 7, none, .d (.mv (.t 17))⟩])
     (.seq (.dreg [] [([], ⟨some 18, none, .d (.load true 2 (.t 2))⟩),
       ([], ⟨some 19, none, .d (.mv (.t 1))⟩),
       ([], ⟨some 20, none, .d (.mv (.t 7))⟩),
       ([], ⟨some 21, none, .d (.slc 1 (.t 19) none (some (.t 20)))⟩)] [⟨some 22, none, .d (.call (.f f_count) [(.t 18), (.t 21), (.c (.int .i64 2))])⟩,
       ⟨some 23, none, .d (.bin .arith .gtr (.t 22) (.c (.int .i64 0)))⟩])
     (.cond (.t 23) (.reg [⟨some 24, none, .d (.mv (.t 7))⟩,
        ⟨some 6, none, .d (.mv (.t 24))⟩]) (.skip)))))
    (.reg [⟨some 25, none, .d (.bin .arith .add (.t 15) (.c (.int .i64 1)))⟩,
      ⟨some 15, none, .d (.mv (.t 25))⟩])))))))
  (.seq (.reg [⟨some 26, none, .d (.mv (.t 6))⟩,
    ⟨some 4, none, .d (.mv (.t 26))⟩,
    ⟨some 5, none, .d (.mv (.c (.bool true)))⟩])
  (.ret))))), [.tmp 4, .tmp 5]⟩
def n_LongestHold : Nat → Option Ann := fun _ => none
abbrev k_LongestHold : List Nat := [0, 1, 2, 4, 5, 6, 7, 11, 14, 15, 16, 23]
abbrev o_LongestHold : List Nat := [2]
def a_s_LongestHold (f_l8Good : FuncId) (f_l8Tell : FuncId) : AFn := ⟨2, 
  .seq (.reg [⟨some 2, none, .w (.box 2 (.t 0))⟩,
    ⟨some 4, none, .d (.mv (.c (.int .i64 0)))⟩,
    ⟨some 5, none, .d (.mv (.c (.bool false)))⟩])
  (.seq (.seq (.reg [⟨some 7, none, .d (.load true 2 (.t 2))⟩,
    ⟨some 8, none, .d (.mv (.t 1))⟩,
    ⟨some 9, none, .d (.call (.f f_l8Good) [(.t 7), (.t 8)])⟩,
    ⟨some 10, none, .d (.not (.t 9))⟩])
  (.cond (.t 10) (.seq (.reg [⟨some 4, none, .d (.mv (.c (.int .i64 0)))⟩,
     ⟨some 5, none, .d (.mv (.c (.bool false)))⟩])
   (.ret)) (.skip)))
  (.seq (.reg [⟨some 11, none, .d (.mv (.t 1))⟩,
    ⟨some 12, none, .d (.len (.t 11))⟩,
    ⟨some 6, none, .d (.mv (.t 12))⟩])
  (.seq (.block 0 (.loop (.seq (.seq (.dreg [] [([], ⟨some 13, none, .d (.mv (.t 6))⟩),
      ([], ⟨some 14, none, .d (.bin .arith .geq (.t 13) (.c (.int .i64 0)))⟩),
      ([], ⟨some 15, none, .d (.mv (.t 14))⟩),
      ([], ⟨some 16, some (15, true), .d (.load true 2 (.t 2))⟩),
      ([], ⟨some 17, some (15, true), .d (.mv (.t 1))⟩),
      ([], ⟨some 18, some (15, true), .d (.mv (.t 6))⟩),
      ([], ⟨some 19, some (15, true), .d (.slc 1 (.t 17) none (some (.t 18)))⟩)] [⟨some 20, some (15, true), .d (.call (.f f_l8Tell) [(.t 16), (.t 19)])⟩,
      ⟨some 21, none, .d (.pick (.t 15) (.t 20) (.c (.bool false)))⟩])
    (.cond (.t 21) (.skip) (.exit 0)))
    (.block 1 (.reg [⟨some 22, none, .d (.mv (.t 6))⟩,
       ⟨some 23, none, .d (.bin .arith .sub (.t 22) (.c (.int .i64 1)))⟩,
       ⟨some 6, none, .d (.mv (.t 23))⟩])))))
  (.seq (.reg [⟨some 24, none, .d (.mv (.t 6))⟩,
    ⟨some 4, none, .d (.mv (.t 24))⟩,
    ⟨some 5, none, .d (.mv (.c (.bool true)))⟩])
  (.ret))))), [.tmp 4, .tmp 5]⟩
def n_s_LongestHold : Nat → Option Ann := fun _ => none
abbrev k_s_LongestHold : List Nat := [0, 1, 2, 4, 5, 6, 10, 21]
abbrev o_s_LongestHold : List Nat := [2]
def c_LongestHold : Con := pure' fun
  | [.p (.agg [.sl 1 x_, .int .i64 m]), .p (.sl 1 l_)] => if isI x_ = true ∧ isI l_ = true ∧ ((ofI x_).length ≤ 1100000 ∧ (ofI l_).length ≤ 1100000) then some (.tp [.p (.int .i64 (if isL (ofI x_) m (ofI l_) = true then longI (ofI x_) m (ofI l_) ((ofI l_).length + 1) else 0)), .p (.bool (isL (ofI x_) m (ofI l_)))], []) else none
  | _ => none
theorem s_LongestHold {P : Program} (hm : P.follows .mixedOrders = true) {Γ : Gam} (hΓ : GS P Γ) {n : FuncId} {f_areListed : FuncId} {f_count : FuncId} (is : Is P n (a_LongestHold f_areListed f_count)) (h_areListed : Γ f_areListed = c_areListed) (h_count : Γ f_count = c_count)  : Says P n c_LongestHold := by
  refine Says.pure fun args r fs h => ?_
  split at h
  case h_2 => cases h
  rename_i x_ m l_
  split at h
  case isFalse => cases h
  rename_i hc
  obtain ⟨hx_, hc⟩ := hc
  obtain ⟨x, rfl⟩ := isI_out hx_
  obtain ⟨hl_, hc⟩ := hc
  obtain ⟨l, rfl⟩ := isI_out hl_
  simp only [ofI_ints, ofBo_bools, ofAs_asks, Option.some.injEq, Prod.mk.injEq] at h hc
  obtain ⟨rfl, rfl⟩ := h
  cases hL : isL x m l with
  | false =>
    refine is.go hm hΓ k_LongestHold o_LongestHold (by simp [a_LongestHold]) ?_
    simp only [a_LongestHold, h_areListed, c_areListed, h_count, c_count, hc, hL, Bool.false_eq_true, List.zipIdx_cons, List.zipIdx_nil, ↓SP, SQ, Gam.add, stepM, callC, argC, lendO, nmBy, nmC, likeL, likeB, plainOb, offs, X, F, trP, trO, stepD, stepW, newA, SV.tr, SV.trL, fz, allP, Ob.tr, loadA, cellsA, SV.cells, binA, binI, eqOut, isSl, isPt, natOf, callee, snap, SV.refsL, SV.refs, thaw, fzAll, loA, hiA, elemOf, partsA, buildA, putCells, ↓reduceIte, reduceCtorEq, okCell, Nat.reduceAdd, Nat.reduceEqDiff, Nat.reduceSub, Nat.reduceMul, Nat.reduceLeDiff, Nat.reduceLT, Nat.reduceBEq, PV.scal, PV.scalL, SV.scal, SV.scalL, Ob.scal, PV.isCell, pure', resO]
    exact finA_val (by simp [retA, rvA, List.mapM_cons, List.mapM_nil, Option.pure_def, Option.bind_eq_bind, Option.bind_some, Option.map_some, mkE_cons, mk_nil, mkO_cons, mkO_nil, loadA, ↓reduceIte, List.take_succ_cons, List.take_zero, List.drop_zero, List.drop_succ_cons, List.length_cons, List.length_nil, Nat.reduceAdd, Nat.reduceEqDiff, Nat.reduceLeDiff, Nat.zero_add, Nat.le_refl, reduceCtorEq, SV.tr, SV.trL, nmF, rn_nil, rn_cons1, rn_cons2, List.map_cons, List.map_nil, List.all_cons, List.all_nil, plainOb, SV.refsL, SV.refs, Ob.refs, X, F, List.range_succ, List.range_zero, List.nil_append, List.cons_append, List.isEmpty_nil, decide_true, Nat.reduceLT, Bool.and_self, Bool.and_true, and_self, and_true, List.getElem?_cons_zero, List.getElem?_cons_succ, List.nodup_cons, List.nodup_nil, List.mem_cons, List.not_mem_nil, not_false_eq_true, or_false, List.append_nil, mkO, setO_mk, List.mem_singleton]) (by simp [SV.tr, SV.trL])
  | true =>
    obtain ⟨h1, h2, h3⟩ := isL_fit hL
    have hw0 := wrap_one (i := l.length) (by omega)
    refine is.go hm hΓ k_LongestHold o_LongestHold (by simp [a_LongestHold]) ?_
    simp only [a_LongestHold, h_areListed, c_areListed, h_count, c_count, hc, hL, hw0, List.zipIdx_cons, List.zipIdx_nil, ↓SP, SQ, Gam.add, stepM, callC, argC, lendO, nmBy, nmC, likeL, likeB, plainOb, offs, X, F, trP, trO, stepD, stepW, newA, SV.tr, SV.trL, fz, allP, Ob.tr, loadA, cellsA, SV.cells, binA, binI, eqOut, isSl, isPt, natOf, callee, snap, SV.refsL, SV.refs, thaw, fzAll, loA, hiA, elemOf, partsA, buildA, putCells, ↓reduceIte, reduceCtorEq, okCell, Nat.reduceAdd, Nat.reduceEqDiff, Nat.reduceSub, Nat.reduceMul, Nat.reduceLeDiff, Nat.reduceLT, Nat.reduceBEq, PV.scal, PV.scalL, SV.scal, SV.scalL, Ob.scal, PV.isCell, pure', resO]
    refine loop_at (fun s : Nat × SV × SV × SV => mkEnv [(0, .p (.agg [.sl 1 (ints x), .int .i64 m])), (1, .p (.sl 1 (ints l))), (2, .bx 2 0), (4, si 0), (5, sb false), (6, si (longI x m l s.1)), (7, s.2.1), (11, sb false), (14, si ((l.length + 1 : Nat) : Int)), (15, si s.1), (16, s.2.2.1), (23, s.2.2.2)]) (fun s => mkO [(2, some (.box [.p (.sl 1 (ints x)), si m]))]) (fun s => s.1 ≤ l.length + 1) (fun s => l.length + 1 - s.1) (0, .junk, .junk, .junk) (by simp) rfl rfl ?_
    rintro ⟨i, c1, c2, c3⟩ hi R hR hN
    simp only at hi
    by_cases h : i < l.length + 1
    · have h1' : (i : Int) < ((l.length + 1 : Nat) : Int) := by omega
      have hw := wrap_one (i := i) (by omega)
      have hil : i ≤ l.length := by omega
      have hil8 : i ≤ 8 := by omega
      have hll : min i l.length ≤ 8 := by omega
      have hx := hc.1
      by_cases ha : (cntN x m (l.take i) 2 : Int) > 0
      · have hlo : longI x m l (i + 1) = (i : Int) := by simp only [longI, ha, if_true]
        simp only [h1', hw, hx, hil, hil8, hll, h2, h3, ha, ints_len, ints_take, List.length_take, Nat.sub_zero, h_count, c_count, ↓SP, SQ, Gam.add, stepM, callC, argC, lendO, nmBy, nmC, likeL, likeB, plainOb, offs, X, F, trP, trO, stepD, stepW, newA, SV.tr, SV.trL, fz, allP, Ob.tr, loadA, cellsA, SV.cells, binA, binI, eqOut, isSl, isPt, natOf, callee, snap, SV.refsL, SV.refs, thaw, fzAll, loA, hiA, elemOf, partsA, buildA, putCells, ↓reduceIte, reduceCtorEq, okCell, Nat.reduceAdd, Nat.reduceEqDiff, Nat.reduceSub, Nat.reduceMul, Nat.reduceLeDiff, Nat.reduceLT, Nat.reduceBEq, PV.scal, PV.scalL, SV.scal, SV.scalL, Ob.scal, PV.isCell, pure', resO]
        exact hN (i + 1, _, _, _) _ _ (by simp only; omega) (by simp only; omega) (by rw [hlo]) rfl
      · have hlo : longI x m l (i + 1) = longI x m l i := by simp only [longI, ha, if_false]
        simp only [h1', hw, hx, hil, hil8, hll, h2, h3, ha, ints_len, ints_take, List.length_take, Nat.sub_zero, h_count, c_count, ↓SP, SQ, Gam.add, stepM, callC, argC, lendO, nmBy, nmC, likeL, likeB, plainOb, offs, X, F, trP, trO, stepD, stepW, newA, SV.tr, SV.trL, fz, allP, Ob.tr, loadA, cellsA, SV.cells, binA, binI, eqOut, isSl, isPt, natOf, callee, snap, SV.refsL, SV.refs, thaw, fzAll, loA, hiA, elemOf, partsA, buildA, putCells, ↓reduceIte, reduceCtorEq, okCell, Nat.reduceAdd, Nat.reduceEqDiff, Nat.reduceSub, Nat.reduceMul, Nat.reduceLeDiff, Nat.reduceLT, Nat.reduceBEq, PV.scal, PV.scalL, SV.scal, SV.scalL, Ob.scal, PV.isCell, pure', resO]
        exact hN (i + 1, _, _, _) _ _ (by simp only; omega) (by simp only; omega) (by rw [hlo]) rfl
    · have he : i = l.length + 1 := by omega
      have h1' : ¬ (i : Int) < ((l.length + 1 : Nat) : Int) := by omega
      simp only [h1', ↓SP, SQ, Gam.add, stepM, callC, argC, lendO, nmBy, nmC, likeL, likeB, plainOb, offs, X, F, trP, trO, stepD, stepW, newA, SV.tr, SV.trL, fz, allP, Ob.tr, loadA, cellsA, SV.cells, binA, binI, eqOut, isSl, isPt, natOf, callee, snap, SV.refsL, SV.refs, thaw, fzAll, loA, hiA, elemOf, partsA, buildA, putCells, ↓reduceIte, reduceCtorEq, okCell, Nat.reduceAdd, Nat.reduceEqDiff, Nat.reduceSub, Nat.reduceMul, Nat.reduceLeDiff, Nat.reduceLT, Nat.reduceBEq, PV.scal, PV.scalL, SV.scal, SV.scalL, Ob.scal, PV.isCell, pure', resO]
      refine hR _ _ _ (by intro h; cases h) ?_
      simp only [↓SP, SQ, Gam.add, stepM, callC, argC, lendO, nmBy, nmC, likeL, likeB, plainOb, offs, X, F, trP, trO, stepD, stepW, newA, SV.tr, SV.trL, fz, allP, Ob.tr, loadA, cellsA, SV.cells, binA, binI, eqOut, isSl, isPt, natOf, callee, snap, SV.refsL, SV.refs, thaw, fzAll, loA, hiA, elemOf, partsA, buildA, putCells, ↓reduceIte, reduceCtorEq, okCell, Nat.reduceAdd, Nat.reduceEqDiff, Nat.reduceSub, Nat.reduceMul, Nat.reduceLeDiff, Nat.reduceLT, Nat.reduceBEq, PV.scal, PV.scalL, SV.scal, SV.scalL, Ob.scal, PV.isCell, pure', resO]
      subst he
      exact finA_val (by simp [retA, rvA, List.mapM_cons, List.mapM_nil, Option.pure_def, Option.bind_eq_bind, Option.bind_some, Option.map_some, mkE_cons, mk_nil, mkO_cons, mkO_nil, loadA, ↓reduceIte, List.take_succ_cons, List.take_zero, List.drop_zero, List.drop_succ_cons, List.length_cons, List.length_nil, Nat.reduceAdd, Nat.reduceEqDiff, Nat.reduceLeDiff, Nat.zero_add, Nat.le_refl, reduceCtorEq, SV.tr, SV.trL, nmF, rn_nil, rn_cons1, rn_cons2, List.map_cons, List.map_nil, List.all_cons, List.all_nil, plainOb, SV.refsL, SV.refs, Ob.refs, X, F, List.range_succ, List.range_zero, List.nil_append, List.cons_append, List.isEmpty_nil, decide_true, Nat.reduceLT, Bool.and_self, Bool.and_true, and_self, and_true, List.getElem?_cons_zero, List.getElem?_cons_succ, List.nodup_cons, List.nodup_nil, List.mem_cons, List.not_mem_nil, not_false_eq_true, or_false, List.append_nil, mkO, setO_mk, List.mem_singleton]) (by simp [SV.tr, SV.trL])
theorem s_s_LongestHold {P : Program} (hm : P.follows .mixedOrders = true) {Γ : Gam} (hΓ : GS P Γ) {n : FuncId} {f_l8Good : FuncId} {f_l8Tell : FuncId} (is : Is P n (a_s_LongestHold f_l8Good f_l8Tell)) (h_l8Good : Γ f_l8Good = c_areListed) (h_l8Tell : Γ f_l8Tell = c_l8Tell)  : Says P n c_LongestHold := by
  refine Says.pure fun args r fs h => ?_
  split at h
  case h_2 => cases h
  rename_i x_ m l_
  split at h
  case isFalse => cases h
  rename_i hc
  obtain ⟨hx_, hc⟩ := hc
  obtain ⟨x, rfl⟩ := isI_out hx_
  obtain ⟨hl_, hc⟩ := hc
  obtain ⟨l, rfl⟩ := isI_out hl_
  simp only [ofI_ints, ofBo_bools, ofAs_asks, Option.some.injEq, Prod.mk.injEq] at h hc
  obtain ⟨rfl, rfl⟩ := h
  cases hL : isL x m l with
  | false =>
    refine is.go hm hΓ k_s_LongestHold o_s_LongestHold (by simp [a_s_LongestHold]) ?_
    simp only [a_s_LongestHold, h_l8Good, c_areListed, h_l8Tell, c_l8Tell, hc, hL, Bool.false_eq_true, List.zipIdx_cons, List.zipIdx_nil, ↓SP, SQ, Gam.add, stepM, callC, argC, lendO, nmBy, nmC, likeL, likeB, plainOb, offs, X, F, trP, trO, stepD, stepW, newA, SV.tr, SV.trL, fz, allP, Ob.tr, loadA, cellsA, SV.cells, binA, binI, eqOut, isSl, isPt, natOf, callee, snap, SV.refsL, SV.refs, thaw, fzAll, loA, hiA, elemOf, partsA, buildA, putCells, ↓reduceIte, reduceCtorEq, okCell, Nat.reduceAdd, Nat.reduceEqDiff, Nat.reduceSub, Nat.reduceMul, Nat.reduceLeDiff, Nat.reduceLT, Nat.reduceBEq, PV.scal, PV.scalL, SV.scal, SV.scalL, Ob.scal, PV.isCell, pure', resO]
    exact finA_val (by simp [retA, rvA, List.mapM_cons, List.mapM_nil, Option.pure_def, Option.bind_eq_bind, Option.bind_some, Option.map_some, mkE_cons, mk_nil, mkO_cons, mkO_nil, loadA, ↓reduceIte, List.take_succ_cons, List.take_zero, List.drop_zero, List.drop_succ_cons, List.length_cons, List.length_nil, Nat.reduceAdd, Nat.reduceEqDiff, Nat.reduceLeDiff, Nat.zero_add, Nat.le_refl, reduceCtorEq, SV.tr, SV.trL, nmF, rn_nil, rn_cons1, rn_cons2, List.map_cons, List.map_nil, List.all_cons, List.all_nil, plainOb, SV.refsL, SV.refs, Ob.refs, X, F, List.range_succ, List.range_zero, List.nil_append, List.cons_append, List.isEmpty_nil, decide_true, Nat.reduceLT, Bool.and_self, Bool.and_true, and_self, and_true, List.getElem?_cons_zero, List.getElem?_cons_succ, List.nodup_cons, List.nodup_nil, List.mem_cons, List.not_mem_nil, not_false_eq_true, or_false, List.append_nil, mkO, setO_mk, List.mem_singleton]) (by simp [SV.tr, SV.trL])
  | true =>
    obtain ⟨h1, h2, h3⟩ := isL_fit hL
    refine is.go hm hΓ k_s_LongestHold o_s_LongestHold (by simp [a_s_LongestHold]) ?_
    simp only [a_s_LongestHold, h_l8Good, c_areListed, h_l8Tell, c_l8Tell, hc, hL, List.zipIdx_cons, List.zipIdx_nil, ↓SP, SQ, Gam.add, stepM, callC, argC, lendO, nmBy, nmC, likeL, likeB, plainOb, offs, X, F, trP, trO, stepD, stepW, newA, SV.tr, SV.trL, fz, allP, Ob.tr, loadA, cellsA, SV.cells, binA, binI, eqOut, isSl, isPt, natOf, callee, snap, SV.refsL, SV.refs, thaw, fzAll, loA, hiA, elemOf, partsA, buildA, putCells, ↓reduceIte, reduceCtorEq, okCell, Nat.reduceAdd, Nat.reduceEqDiff, Nat.reduceSub, Nat.reduceMul, Nat.reduceLeDiff, Nat.reduceLT, Nat.reduceBEq, PV.scal, PV.scalL, SV.scal, SV.scalL, Ob.scal, PV.isCell, pure', resO]
    refine loop_at (fun s : Nat × SV => mkEnv [(0, .p (.agg [.sl 1 (ints x), .int .i64 m])), (1, .p (.sl 1 (ints l))), (2, .bx 2 0), (4, si 0), (5, sb false), (6, si ((s.1 : Int) - 1)), (10, sb false), (21, s.2)]) (fun s => mkO [(2, some (.box [.p (.sl 1 (ints x)), si m]))]) (fun s => s.1 ≤ l.length + 1 ∧ longI x m l (l.length + 1) = longI x m l s.1) (fun s => s.1) (l.length + 1, .junk) (by simp) (by simp) rfl ?_
    rintro ⟨i, c1⟩ ⟨hi, hlg⟩ R hR hN
    simp only at hi hlg
    cases i with
    | succ k =>
      have e1 : ((k + 1 : Nat) : Int) - 1 = (k : Int) := by omega
      have hw : IntKind.i64.wrap ((k : Int) - 1) = (k : Int) - 1 := wrap64 (by omega) (by omega)
      have g1 : (k : Int) ≥ 0 := by omega
      have hkl : k ≤ l.length := by omega
      have hil8 : k ≤ 8 := by omega
      have hll : min k l.length ≤ 8 := by omega
      have hx := hc.1
      by_cases ha : (cntN x m (l.take k) 2 : Int) > 0
      · have hz : ((cntN x m (l.take k) 2 : Int) == 0) = false := by rw [beq_eq_false_iff_ne]; omega
        have hlo : longI x m l (l.length + 1) = (k : Int) := by rw [hlg]; simp only [longI, ha, if_true]
        simp only [e1, g1, hw, hx, hkl, hil8, hll, h2, h3, hz, ints_len, ints_take, List.length_take, Nat.sub_zero, h_l8Tell, c_l8Tell, ↓SP, SQ, Gam.add, stepM, callC, argC, lendO, nmBy, nmC, likeL, likeB, plainOb, offs, X, F, trP, trO, stepD, stepW, newA, SV.tr, SV.trL, fz, allP, Ob.tr, loadA, cellsA, SV.cells, binA, binI, eqOut, isSl, isPt, natOf, callee, snap, SV.refsL, SV.refs, thaw, fzAll, loA, hiA, elemOf, partsA, buildA, putCells, ↓reduceIte, reduceCtorEq, okCell, Nat.reduceAdd, Nat.reduceEqDiff, Nat.reduceSub, Nat.reduceMul, Nat.reduceLeDiff, Nat.reduceLT, Nat.reduceBEq, PV.scal, PV.scalL, SV.scal, SV.scalL, Ob.scal, PV.isCell, pure', resO]
        refine hR _ _ _ (by intro h; cases h) ?_
        simp only [↓SP, SQ, Gam.add, stepM, callC, argC, lendO, nmBy, nmC, likeL, likeB, plainOb, offs, X, F, trP, trO, stepD, stepW, newA, SV.tr, SV.trL, fz, allP, Ob.tr, loadA, cellsA, SV.cells, binA, binI, eqOut, isSl, isPt, natOf, callee, snap, SV.refsL, SV.refs, thaw, fzAll, loA, hiA, elemOf, partsA, buildA, putCells, ↓reduceIte, reduceCtorEq, okCell, Nat.reduceAdd, Nat.reduceEqDiff, Nat.reduceSub, Nat.reduceMul, Nat.reduceLeDiff, Nat.reduceLT, Nat.reduceBEq, PV.scal, PV.scalL, SV.scal, SV.scalL, Ob.scal, PV.isCell, pure', resO]
        exact finA_val (by simp [hlo, retA, rvA, List.mapM_cons, List.mapM_nil, Option.pure_def, Option.bind_eq_bind, Option.bind_some, Option.map_some, mkE_cons, mk_nil, mkO_cons, mkO_nil, loadA, ↓reduceIte, List.take_succ_cons, List.take_zero, List.drop_zero, List.drop_succ_cons, List.length_cons, List.length_nil, Nat.reduceAdd, Nat.reduceEqDiff, Nat.reduceLeDiff, Nat.zero_add, Nat.le_refl, reduceCtorEq, SV.tr, SV.trL, nmF, rn_nil, rn_cons1, rn_cons2, List.map_cons, List.map_nil, List.all_cons, List.all_nil, plainOb, SV.refsL, SV.refs, Ob.refs, X, F, List.range_succ, List.range_zero, List.nil_append, List.cons_append, List.isEmpty_nil, decide_true, Nat.reduceLT, Bool.and_self, Bool.and_true, and_self, and_true, List.getElem?_cons_zero, List.getElem?_cons_succ, List.nodup_cons, List.nodup_nil, List.mem_cons, List.not_mem_nil, not_false_eq_true, or_false, List.append_nil, mkO, setO_mk, List.mem_singleton]) (by simp [SV.tr, SV.trL])
      · have hz : ((cntN x m (l.take k) 2 : Int) == 0) = true := by rw [beq_iff_eq]; omega
        have hlo : longI x m l (l.length + 1) = longI x m l k := by rw [hlg]; simp only [longI, ha, if_false]
        simp only [e1, g1, hw, hx, hkl, hil8, hll, h2, h3, hz, ints_len, ints_take, List.length_take, Nat.sub_zero, h_l8Tell, c_l8Tell, ↓SP, SQ, Gam.add, stepM, callC, argC, lendO, nmBy, nmC, likeL, likeB, plainOb, offs, X, F, trP, trO, stepD, stepW, newA, SV.tr, SV.trL, fz, allP, Ob.tr, loadA, cellsA, SV.cells, binA, binI, eqOut, isSl, isPt, natOf, callee, snap, SV.refsL, SV.refs, thaw, fzAll, loA, hiA, elemOf, partsA, buildA, putCells, ↓reduceIte, reduceCtorEq, okCell, Nat.reduceAdd, Nat.reduceEqDiff, Nat.reduceSub, Nat.reduceMul, Nat.reduceLeDiff, Nat.reduceLT, Nat.reduceBEq, PV.scal, PV.scalL, SV.scal, SV.scalL, Ob.scal, PV.isCell, pure', resO]
        exact hN (k, _) _ _ ⟨by simp only; omega, hlo⟩ (by simp only; omega) rfl rfl
    | zero =>
      have e1 : ((0 : Nat) : Int) - 1 = -1 := by omega
      have g1 : ¬ (-1 : Int) ≥ 0 := by omega
      have hlo : longI x m l (l.length + 1) = -1 := hlg
      simp only [e1, g1, ↓SP, SQ, Gam.add, stepM, callC, argC, lendO, nmBy, nmC, likeL, likeB, plainOb, offs, X, F, trP, trO, stepD, stepW, newA, SV.tr, SV.trL, fz, allP, Ob.tr, loadA, cellsA, SV.cells, binA, binI, eqOut, isSl, isPt, natOf, callee, snap, SV.refsL, SV.refs, thaw, fzAll, loA, hiA, elemOf, partsA, buildA, putCells, ↓reduceIte, reduceCtorEq, okCell, Nat.reduceAdd, Nat.reduceEqDiff, Nat.reduceSub, Nat.reduceMul, Nat.reduceLeDiff, Nat.reduceLT, Nat.reduceBEq, PV.scal, PV.scalL, SV.scal, SV.scalL, Ob.scal, PV.isCell, pure', resO]
      refine hR _ _ _ (by intro h; cases h) ?_
      simp only [↓SP, SQ, Gam.add, stepM, callC, argC, lendO, nmBy, nmC, likeL, likeB, plainOb, offs, X, F, trP, trO, stepD, stepW, newA, SV.tr, SV.trL, fz, allP, Ob.tr, loadA, cellsA, SV.cells, binA, binI, eqOut, isSl, isPt, natOf, callee, snap, SV.refsL, SV.refs, thaw, fzAll, loA, hiA, elemOf, partsA, buildA, putCells, ↓reduceIte, reduceCtorEq, okCell, Nat.reduceAdd, Nat.reduceEqDiff, Nat.reduceSub, Nat.reduceMul, Nat.reduceLeDiff, Nat.reduceLT, Nat.reduceBEq, PV.scal, PV.scalL, SV.scal, SV.scalL, Ob.scal, PV.isCell, pure', resO]
      exact finA_val (by simp [hlo, retA, rvA, List.mapM_cons, List.mapM_nil, Option.pure_def, Option.bind_eq_bind, Option.bind_some, Option.map_some, mkE_cons, mk_nil, mkO_cons, mkO_nil, loadA, ↓reduceIte, List.take_succ_cons, List.take_zero, List.drop_zero, List.drop_succ_cons, List.length_cons, List.length_nil, Nat.reduceAdd, Nat.reduceEqDiff, Nat.reduceLeDiff, Nat.zero_add, Nat.le_refl, reduceCtorEq, SV.tr, SV.trL, nmF, rn_nil, rn_cons1, rn_cons2, List.map_cons, List.map_nil, List.all_cons, List.all_nil, plainOb, SV.refsL, SV.refs, Ob.refs, X, F, List.range_succ, List.range_zero, List.nil_append, List.cons_append, List.isEmpty_nil, decide_true, Nat.reduceLT, Bool.and_self, Bool.and_true, and_self, and_true, List.getElem?_cons_zero, List.getElem?_cons_succ, List.nodup_cons, List.nodup_nil, List.mem_cons, List.not_mem_nil, not_false_eq_true, or_false, List.append_nil, mkO, setO_mk, List.mem_singleton]) (by simp [SV.tr, SV.trL])
def a_x_CountFair (f_szState : FuncId) (f_toState : FuncId) (f_toIntS : FuncId) (f_s_CountFair : FuncId) (f_CountFair : FuncId) (f_eqState : FuncId) (f_eqIntS : FuncId) : AFn := ⟨2, 
  .seq (.reg [⟨some 2, none, .w (.box 2 (.t 0))⟩,
    ⟨some 4, none, .d (.mv (.c (.bool false)))⟩])
  (.seq (.seq (.reg [⟨some 12, none, .d (.mv (.t 1))⟩,
    ⟨some 13, none, .d (.len (.t 12))⟩,
    ⟨some 14, none, .d (.bin .arith .gtr (.t 13) (.c (.int .i64 1048576)))⟩])
  (.cond (.t 14) (.seq (.reg [⟨some 4, none, .d (.mv (.c (.bool true)))⟩])
   (.ret)) (.skip)))
  (.seq (.reg [⟨some 5, none, .d (.mv (.c (.int .i64 1048576)))⟩])
  (.seq (.reg [⟨some 15, none, .d (.load true 2 (.t 2))⟩,
    ⟨some 16, none, .d (.mv (.t 5))⟩,
    ⟨some 17, none, .d (.call (.f f_szState) [(.t 15), (.t 16)])⟩,
    ⟨some 5, none, .d (.mv (.t 17))⟩])
  (.seq (.seq (.reg [⟨some 18, none, .d (.mv (.t 5))⟩,
    ⟨some 19, none, .d (.bin .arith .lss (.t 18) (.c (.int .i64 0)))⟩])
  (.cond (.t 19) (.seq (.reg [⟨some 4, none, .d (.mv (.c (.bool true)))⟩])
   (.ret)) (.skip)))
  (.seq (.reg [⟨some 21, none, .d (.load true 2 (.t 2))⟩,
    ⟨some 22, none, .d (.call (.f f_toState) [(.t 21)])⟩,
    ⟨some 23, none, .d (.mv (.t 1))⟩,
    ⟨some 24, none, .d (.call (.f f_toIntS) [(.t 23)])⟩,
    ⟨some 25, none, .d (.call (.f f_s_CountFair) [(.t 22), (.t 24)])⟩,
    ⟨some 20, none, .d (.mv (.t 25))⟩,
    ⟨some 26, none, .d (.extract (.t 20) 0)⟩,
    ⟨some 27, none, .d (.extract (.t 20) 1)⟩,
    ⟨some 6, none, .d (.mv (.t 26))⟩,
    ⟨some 7, none, .d (.mv (.t 27))⟩])
  (.seq (.reg [⟨some 28, none, .d (.load true 2 (.t 2))⟩,
    ⟨some 29, none, .d (.call (.f f_toState) [(.t 28)])⟩,
    ⟨some 8, none, .w (.alloc [.nilsl, .int .i64 0])⟩,
    ⟨none, none, .w (.store 2 (.t 8) (.t 29))⟩])
  (.seq (.reg [⟨some 30, none, .d (.mv (.t 1))⟩,
    ⟨some 31, none, .d (.call (.f f_toIntS) [(.t 30)])⟩,
    ⟨some 9, none, .d (.mv (.t 31))⟩])
  (.seq (.reg [⟨some 33, none, .d (.load true 2 (.t 8))⟩,
    ⟨some 34, none, .d (.mv (.t 9))⟩,
    ⟨some 35, none, .d (.call (.f f_CountFair) [(.t 33), (.t 34)])⟩,
    ⟨some 32, none, .d (.mv (.t 35))⟩,
    ⟨some 36, none, .d (.extract (.t 32) 0)⟩,
    ⟨some 37, none, .d (.extract (.t 32) 1)⟩,
    ⟨some 10, none, .d (.mv (.t 36))⟩,
    ⟨some 11, none, .d (.mv (.t 37))⟩])
  (.seq (.seq (.reg [⟨some 38, none, .d (.mv (.t 10))⟩,
    ⟨some 39, none, .d (.mv (.t 6))⟩,
    ⟨some 40, none, .d (.bin .arith .neq (.t 38) (.t 39))⟩,
    ⟨some 41, none, .d (.mv (.t 40))⟩,
    ⟨some 42, some (41, false), .d (.mv (.t 11))⟩,
    ⟨some 43, some (41, false), .d (.mv (.t 7))⟩,
    ⟨some 44, some (41, false), .d (.bin .bool .neq (.t 42) (.t 43))⟩,
    ⟨some 45, none, .d (.pick (.t 41) (.c (.bool true)) (.t 44))⟩])
  (.cond (.t 45) (.seq (.reg [⟨some 4, none, .d (.mv (.c (.bool false)))⟩])
   (.ret)) (.skip)))
  (.seq (.seq (.dreg [] [([], ⟨some 46, none, .d (.load true 2 (.t 8))⟩),
    ([], ⟨some 47, none, .d (.load true 2 (.t 2))⟩),
    ([], ⟨some 48, none, .d (.call (.f f_toState) [(.t 47)])⟩)] [⟨some 49, none, .d (.call (.f f_eqState) [(.t 46), (.t 48)])⟩,
    ⟨some 50, none, .d (.not (.t 49))⟩])
  (.cond (.t 50) (.seq (.reg [⟨some 4, none, .d (.mv (.c (.bool false)))⟩])
   (.ret)) (.skip)))
  (.seq (.seq (.reg [⟨some 51, none, .d (.mv (.t 9))⟩,
    ⟨some 52, none, .d (.mv (.t 1))⟩,
    ⟨some 53, none, .d (.call (.f f_toIntS) [(.t 52)])⟩,
    ⟨some 54, none, .d (.call (.f f_eqIntS) [(.t 51), (.t 53)])⟩,
    ⟨some 55, none, .d (.not (.t 54))⟩])
  (.cond (.t 55) (.seq (.reg [⟨some 4, none, .d (.mv (.c (.bool false)))⟩])
   (.ret)) (.skip)))
  (.seq (.reg [⟨some 4, none, .d (.mv (.c (.bool true)))⟩])
  (.ret))))))))))))), [.tmp 4]⟩
def n_x_CountFair : Nat → Option Ann := fun _ => none
abbrev k_x_CountFair : List Nat := [0, 1, 2, 4, 5, 6, 7, 8, 9, 10, 11, 14, 19, 45, 50, 55]
abbrev o_x_CountFair : List Nat := [2, 8]
def c_x_CountFair : Con := pure' fun
  | [.p (.agg [v, .int .i64 m]), .p u] => match slI v, slI u with
    | some x, some l => if x.length ≤ 9223372036854775807 ∧ l.length ≤ 9223372036854775807 then some (.p (.bool true), []) else none
    | _, _ => none
  | _ => none
set_option maxRecDepth 100000 in
theorem s_x_CountFair {P : Program} (hm : P.follows .mixedOrders = true) {Γ : Gam} (hΓ : GS P Γ) {n : FuncId} {f_szState : FuncId} {f_toState : FuncId} {f_toIntS : FuncId} {f_s_CountFair : FuncId} {f_CountFair : FuncId} {f_eqState : FuncId} {f_eqIntS : FuncId} (is : Is P n (a_x_CountFair f_szState f_toState f_toIntS f_s_CountFair f_CountFair f_eqState f_eqIntS)) (h_szState : Γ f_szState = c_szState) (h_toState : Γ f_toState = c_toState) (h_toIntS : Γ f_toIntS = c_toIntS) (h_s_CountFair : Γ f_s_CountFair = c_CountFair) (h_CountFair : Γ f_CountFair = c_CountFair) (h_eqState : Γ f_eqState = c_eqState) (h_eqIntS : Γ f_eqIntS = c_eqIntS)  : Says P n c_x_CountFair := by
  refine Says.pure fun args r fs h => ?_
  split at h
  case h_2 => cases h
  rename_i v m u
  split at h
  case h_2 => cases h
  rename_i x l hx hu
  split at h
  case isFalse => cases h
  rename_i hc
  simp only [Option.some.injEq, Prod.mk.injEq] at h
  obtain ⟨rfl, rfl⟩ := h
  have hlp := slI_lenP hx
  have hlu := slI_len hu
  by_cases hku : (l.length : Int) > 1048576
  · refine is.go hm hΓ k_x_CountFair o_x_CountFair (by simp [a_x_CountFair]) ?_
    simp only [a_x_CountFair, h_szState, c_szState, h_toState, c_toState, h_toIntS, c_toIntS, h_s_CountFair, c_CountFair, h_CountFair, c_CountFair, h_eqState, c_eqState, h_eqIntS, c_eqIntS, hlp, hlu, hc, hku, Int.reduceLE, Int.reduceNeg, Int.reduceLT, List.zipIdx_cons, List.zipIdx_nil, ↓SP, SQ, Gam.add, stepM, callC, argC, lendO, nmBy, nmC, likeL, likeB, plainOb, offs, X, F, trP, trO, stepD, stepW, newA, SV.tr, SV.trL, fz, allP, Ob.tr, loadA, cellsA, SV.cells, binA, binI, eqOut, isSl, isPt, natOf, callee, snap, SV.refsL, SV.refs, thaw, fzAll, loA, hiA, elemOf, partsA, buildA, putCells, ↓reduceIte, reduceCtorEq, okCell, Nat.reduceAdd, Nat.reduceEqDiff, Nat.reduceSub, Nat.reduceMul, Nat.reduceLeDiff, Nat.reduceLT, Nat.reduceBEq, PV.scal, PV.scalL, SV.scal, SV.scalL, Ob.scal, PV.isCell, pure', resO]
    exact finA_val (by simp [retA, rvA, List.mapM_cons, List.mapM_nil, Option.pure_def, Option.bind_eq_bind, Option.bind_some, Option.map_some, mkE_cons, mk_nil, mkO_cons, mkO_nil, loadA, ↓reduceIte, List.take_succ_cons, List.take_zero, List.drop_zero, List.drop_succ_cons, List.length_cons, List.length_nil, Nat.reduceAdd, Nat.reduceEqDiff, Nat.reduceLeDiff, Nat.zero_add, Nat.le_refl, reduceCtorEq, SV.tr, SV.trL, nmF, rn_nil, rn_cons1, rn_cons2, List.map_cons, List.map_nil, List.all_cons, List.all_nil, plainOb, SV.refsL, SV.refs, Ob.refs, X, F, List.range_succ, List.range_zero, List.nil_append, List.cons_append, List.isEmpty_nil, decide_true, Nat.reduceLT, Bool.and_self, Bool.and_true, and_self, and_true, List.getElem?_cons_zero, List.getElem?_cons_succ, List.nodup_cons, List.nodup_nil, List.mem_cons, List.not_mem_nil, not_false_eq_true, or_false, List.append_nil, mkO, setO_mk, List.mem_singleton]) (by simp [SV.tr, SV.trL])
  · by_cases hk : (1048576 : Int) - (x.length : Int) < 0
    · refine is.go hm hΓ k_x_CountFair o_x_CountFair (by simp [a_x_CountFair]) ?_
      simp only [a_x_CountFair, h_szState, c_szState, h_toState, c_toState, h_toIntS, c_toIntS, h_s_CountFair, c_CountFair, h_CountFair, c_CountFair, h_eqState, c_eqState, h_eqIntS, c_eqIntS, hlp, hlu, hc, hk, hku, Int.reduceLE, Int.reduceNeg, Int.reduceLT, List.zipIdx_cons, List.zipIdx_nil, ↓SP, SQ, Gam.add, stepM, callC, argC, lendO, nmBy, nmC, likeL, likeB, plainOb, offs, X, F, trP, trO, stepD, stepW, newA, SV.tr, SV.trL, fz, allP, Ob.tr, loadA, cellsA, SV.cells, binA, binI, eqOut, isSl, isPt, natOf, callee, snap, SV.refsL, SV.refs, thaw, fzAll, loA, hiA, elemOf, partsA, buildA, putCells, ↓reduceIte, reduceCtorEq, okCell, Nat.reduceAdd, Nat.reduceEqDiff, Nat.reduceSub, Nat.reduceMul, Nat.reduceLeDiff, Nat.reduceLT, Nat.reduceBEq, PV.scal, PV.scalL, SV.scal, SV.scalL, Ob.scal, PV.isCell, pure', resO]
      exact finA_val (by simp [retA, rvA, List.mapM_cons, List.mapM_nil, Option.pure_def, Option.bind_eq_bind, Option.bind_some, Option.map_some, mkE_cons, mk_nil, mkO_cons, mkO_nil, loadA, ↓reduceIte, List.take_succ_cons, List.take_zero, List.drop_zero, List.drop_succ_cons, List.length_cons, List.length_nil, Nat.reduceAdd, Nat.reduceEqDiff, Nat.reduceLeDiff, Nat.zero_add, Nat.le_refl, reduceCtorEq, SV.tr, SV.trL, nmF, rn_nil, rn_cons1, rn_cons2, List.map_cons, List.map_nil, List.all_cons, List.all_nil, plainOb, SV.refsL, SV.refs, Ob.refs, X, F, List.range_succ, List.range_zero, List.nil_append, List.cons_append, List.isEmpty_nil, decide_true, Nat.reduceLT, Bool.and_self, Bool.and_true, and_self, and_true, List.getElem?_cons_zero, List.getElem?_cons_succ, List.nodup_cons, List.nodup_nil, List.mem_cons, List.not_mem_nil, not_false_eq_true, or_false, List.append_nil, mkO, setO_mk, List.mem_singleton]) (by simp [SV.tr, SV.trL])
    · have hlen : x.length ≤ 1048576 := by omega
      have hlen2 : x.length ≤ 1100000 := by omega
      have hlen3 : l.length ≤ 1048576 := by omega
      have hlen4 : l.length ≤ 1100000 := by omega
      generalize hg1 : (if isL x m l = true then (cntN x m l 1 : Int) else 0) = b1 at *
      generalize hg2 : isL x m l = b2 at *
      refine is.go hm hΓ k_x_CountFair o_x_CountFair (by simp [a_x_CountFair]) ?_
      simp only [a_x_CountFair, h_szState, c_szState, h_toState, c_toState, h_toIntS, c_toIntS, h_s_CountFair, c_CountFair, h_CountFair, c_CountFair, h_eqState, c_eqState, h_eqIntS, c_eqIntS, hx, hu, hlp, hlu, hc, hk, hku, hlen, hlen2, hlen3, hlen4, hg1, hg2, slI_sl, beq_self_eq_true, Bool.not_true, Int.reduceLE, Int.reduceNeg, Int.reduceLT, bne_self_eq_false, List.zipIdx_cons, List.zipIdx_nil, ↓SP, SQ, Gam.add, stepM, callC, argC, lendO, nmBy, nmC, likeL, likeB, plainOb, offs, X, F, trP, trO, stepD, stepW, newA, SV.tr, SV.trL, fz, allP, Ob.tr, loadA, cellsA, SV.cells, binA, binI, eqOut, isSl, isPt, natOf, callee, snap, SV.refsL, SV.refs, thaw, fzAll, loA, hiA, elemOf, partsA, buildA, putCells, ↓reduceIte, reduceCtorEq, okCell, Nat.reduceAdd, Nat.reduceEqDiff, Nat.reduceSub, Nat.reduceMul, Nat.reduceLeDiff, Nat.reduceLT, Nat.reduceBEq, PV.scal, PV.scalL, SV.scal, SV.scalL, Ob.scal, PV.isCell, pure', resO]
      exact finA_val (by simp [retA, rvA, List.mapM_cons, List.mapM_nil, Option.pure_def, Option.bind_eq_bind, Option.bind_some, Option.map_some, mkE_cons, mk_nil, mkO_cons, mkO_nil, loadA, ↓reduceIte, List.take_succ_cons, List.take_zero, List.drop_zero, List.drop_succ_cons, List.length_cons, List.length_nil, Nat.reduceAdd, Nat.reduceEqDiff, Nat.reduceLeDiff, Nat.zero_add, Nat.le_refl, reduceCtorEq, SV.tr, SV.trL, nmF, rn_nil, rn_cons1, rn_cons2, List.map_cons, List.map_nil, List.all_cons, List.all_nil, plainOb, SV.refsL, SV.refs, Ob.refs, X, F, List.range_succ, List.range_zero, List.nil_append, List.cons_append, List.isEmpty_nil, decide_true, Nat.reduceLT, Bool.and_self, Bool.and_true, and_self, and_true, List.getElem?_cons_zero, List.getElem?_cons_succ, List.nodup_cons, List.nodup_nil, List.mem_cons, List.not_mem_nil, not_false_eq_true, or_false, List.append_nil, mkO, setO_mk, List.mem_singleton]) (by simp [SV.tr, SV.trL])
def a_x_CountHolding (f_szState : FuncId) (f_toState : FuncId) (f_toIntS : FuncId) (f_s_CountHolding : FuncId) (f_CountHolding : FuncId) (f_eqState : FuncId) (f_eqIntS : FuncId) : AFn := ⟨2, 
  .seq (.reg [⟨some 2, none, .w (.box 2 (.t 0))⟩,
    ⟨some 4, none, .d (.mv (.c (.bool false)))⟩])
  (.seq (.seq (.reg [⟨some 12, none, .d (.mv (.t 1))⟩,
    ⟨some 13, none, .d (.len (.t 12))⟩,
    ⟨some 14, none, .d (.bin .arith .gtr (.t 13) (.c (.int .i64 1048576)))⟩])
  (.cond (.t 14) (.seq (.reg [⟨some 4, none, .d (.mv (.c (.bool true)))⟩])
   (.ret)) (.skip)))
  (.seq (.reg [⟨some 5, none, .d (.mv (.c (.int .i64 1048576)))⟩])
  (.seq (.reg [⟨some 15, none, .d (.load true 2 (.t 2))⟩,
    ⟨some 16, none, .d (.mv (.t 5))⟩,
    ⟨some 17, none, .d (.call (.f f_szState) [(.t 15), (.t 16)])⟩,
    ⟨some 5, none, .d (.mv (.t 17))⟩])
  (.seq (.seq (.reg [⟨some 18, none, .d (.mv (.t 5))⟩,
    ⟨some 19, none, .d (.bin .arith .lss (.t 18) (.c (.int .i64 0)))⟩])
  (.cond (.t 19) (.seq (.reg [⟨some 4, none, .d (.mv (.c (.bool true)))⟩])
   (.ret)) (.skip)))
  (.seq (.reg [⟨some 21, none, .d (.load true 2 (.t 2))⟩,
    ⟨some 22, none, .d (.call (.f f_toState) [(.t 21)])⟩,
    ⟨some 23, none, .d (.mv (.t 1))⟩,
    ⟨some 24, none, .d (.call (.f f_toIntS) [(.t 23)])⟩,
    ⟨some 25, none, .d (.call (.f f_s_CountHolding) [(.t 22), (.t 24)])⟩,
    ⟨some 20, none, .d (.mv (.t 25))⟩,
    ⟨some 26, none, .d (.extract (.t 20) 0)⟩,
    ⟨some 27, none, .d (.extract (.t 20) 1)⟩,
    ⟨some 6, none, .d (.mv (.t 26))⟩,
    ⟨some 7, none, .d (.mv (.t 27))⟩])
  (.seq (.reg [⟨some 28, none, .d (.load true 2 (.t 2))⟩,
    ⟨some 29, none, .d (.call (.f f_toState) [(.t 28)])⟩,
    ⟨some 8, none, .w (.alloc [.nilsl, .int .i64 0])⟩,
    ⟨none, none, .w (.store 2 (.t 8) (.t 29))⟩])
  (.seq (.reg [⟨some 30, none, .d (.mv (.t 1))⟩,
    ⟨some 31, none, .d (.call (.f f_toIntS) [(.t 30)])⟩,
    ⟨some 9, none, .d (.mv (.t 31))⟩])
  (.seq (.reg [⟨some 33, none, .d (.load true 2 (.t 8))⟩,
    ⟨some 34, none, .d (.mv (.t 9))⟩,
    ⟨some 35, none, .d (.call (.f f_CountHolding) [(.t 33), (.t 34)])⟩,
    ⟨some 32, none, .d (.mv (.t 35))⟩,
    ⟨some 36, none, .d (.extract (.t 32) 0)⟩,
    ⟨some 37, none, .d (.extract (.t 32) 1)⟩,
    ⟨some 10, none, .d (.mv (.t 36))⟩,
    ⟨some 11, none, .d (.mv (.t 37))⟩])
  (.seq (.seq (.reg [⟨some 38, none, .d (.mv (.t 10))⟩,
    ⟨some 39, none, .d (.mv (.t 6))⟩,
    ⟨some 40, none, .d (.bin .arith .neq (.t 38) (.t 39))⟩,
    ⟨some 41, none, .d (.mv (.t 40))⟩,
    ⟨some 42, some (41, false), .d (.mv (.t 11))⟩,
    ⟨some 43, some (41, false), .d (.mv (.t 7))⟩,
    ⟨some 44, some (41, false), .d (.bin .bool .neq (.t 42) (.t 43))⟩,
    ⟨some 45, none, .d (.pick (.t 41) (.c (.bool true)) (.t 44))⟩])
  (.cond (.t 45) (.seq (.reg [⟨some 4, none, .d (.mv (.c (.bool false)))⟩])
   (.ret)) (.skip)))
  (.seq (.seq (.dreg [] [([], ⟨some 46, none, .d (.load true 2 (.t 8))⟩),
    ([], ⟨some 47, none, .d (.load true 2 (.t 2))⟩),
    ([], ⟨some 48, none, .d (.call (.f f_toState) [(.t 47)])⟩)] [⟨some 49, none, .d (.call (.f f_eqState) [(.t 46), (.t 48)])⟩,
    ⟨some 50, none, .d (.not (.t 49))⟩])
  (.cond (.t 50) (.seq (.reg [⟨some 4, none, .d (.mv (.c (.bool false)))⟩])
   (.ret)) (.skip)))
  (.seq (.seq (.reg [⟨some 51, none, .d (.mv (.t 9))⟩,
    ⟨some 52, none, .d (.mv (.t 1))⟩,
    ⟨some 53, none, .d (.call (.f f_toIntS) [(.t 52)])⟩,
    ⟨some 54, none, .d (.call (.f f_eqIntS) [(.t 51), (.t 53)])⟩,
    ⟨some 55, none, .d (.not (.t 54))⟩])
  (.cond (.t 55) (.seq (.reg [⟨some 4, none, .d (.mv (.c (.bool false)))⟩])
   (.ret)) (.skip)))
  (.seq (.reg [⟨some 4, none, .d (.mv (.c (.bool true)))⟩])
  (.ret))))))))))))), [.tmp 4]⟩
def n_x_CountHolding : Nat → Option Ann := fun _ => none
abbrev k_x_CountHolding : List Nat := [0, 1, 2, 4, 5, 6, 7, 8, 9, 10, 11, 14, 19, 45, 50, 55]
abbrev o_x_CountHolding : List Nat := [2, 8]
def c_x_CountHolding : Con := pure' fun
  | [.p (.agg [v, .int .i64 m]), .p u] => match slI v, slI u with
    | some x, some l => if x.length ≤ 9223372036854775807 ∧ l.length ≤ 9223372036854775807 then some (.p (.bool true), []) else none
    | _, _ => none
  | _ => none
set_option maxRecDepth 100000 in
theorem s_x_CountHolding {P : Program} (hm : P.follows .mixedOrders = true) {Γ : Gam} (hΓ : GS P Γ) {n : FuncId} {f_szState : FuncId} {f_toState : FuncId} {f_toIntS : FuncId} {f_s_CountHolding : FuncId} {f_CountHolding : FuncId} {f_eqState : FuncId} {f_eqIntS : FuncId} (is : Is P n (a_x_CountHolding f_szState f_toState f_toIntS f_s_CountHolding f_CountHolding f_eqState f_eqIntS)) (h_szState : Γ f_szState = c_szState) (h_toState : Γ f_toState = c_toState) (h_toIntS : Γ f_toIntS = c_toIntS) (h_s_CountHolding : Γ f_s_CountHolding = c_CountHolding) (h_CountHolding : Γ f_CountHolding = c_CountHolding) (h_eqState : Γ f_eqState = c_eqState) (h_eqIntS : Γ f_eqIntS = c_eqIntS)  : Says P n c_x_CountHolding := by
  refine Says.pure fun args r fs h => ?_
  split at h
  case h_2 => cases h
  rename_i v m u
  split at h
  case h_2 => cases h
  rename_i x l hx hu
  split at h
  case isFalse => cases h
  rename_i hc
  simp only [Option.some.injEq, Prod.mk.injEq] at h
  obtain ⟨rfl, rfl⟩ := h
  have hlp := slI_lenP hx
  have hlu := slI_len hu
  by_cases hku : (l.length : Int) > 1048576
  · refine is.go hm hΓ k_x_CountHolding o_x_CountHolding (by simp [a_x_CountHolding]) ?_
    simp only [a_x_CountHolding, h_szState, c_szState, h_toState, c_toState, h_toIntS, c_toIntS, h_s_CountHolding, c_CountHolding, h_CountHolding, c_CountHolding, h_eqState, c_eqState, h_eqIntS, c_eqIntS, hlp, hlu, hc, hku, Int.reduceLE, Int.reduceNeg, Int.reduceLT, List.zipIdx_cons, List.zipIdx_nil, ↓SP, SQ, Gam.add, stepM, callC, argC, lendO, nmBy, nmC, likeL, likeB, plainOb, offs, X, F, trP, trO, stepD, stepW, newA, SV.tr, SV.trL, fz, allP, Ob.tr, loadA, cellsA, SV.cells, binA, binI, eqOut, isSl, isPt, natOf, callee, snap, SV.refsL, SV.refs, thaw, fzAll, loA, hiA, elemOf, partsA, buildA, putCells, ↓reduceIte, reduceCtorEq, okCell, Nat.reduceAdd, Nat.reduceEqDiff, Nat.reduceSub, Nat.reduceMul, Nat.reduceLeDiff, Nat.reduceLT, Nat.reduceBEq, PV.scal, PV.scalL, SV.scal, SV.scalL, Ob.scal, PV.isCell, pure', resO]
    exact finA_val (by simp [retA, rvA, List.mapM_cons, List.mapM_nil, Option.pure_def, Option.bind_eq_bind, Option.bind_some, Option.map_some, mkE_cons, mk_nil, mkO_cons, mkO_nil, loadA, ↓reduceIte, List.take_succ_cons, List.take_zero, List.drop_zero, List.drop_succ_cons, List.length_cons, List.length_nil, Nat.reduceAdd, Nat.reduceEqDiff, Nat.reduceLeDiff, Nat.zero_add, Nat.le_refl, reduceCtorEq, SV.tr, SV.trL, nmF, rn_nil, rn_cons1, rn_cons2, List.map_cons, List.map_nil, List.all_cons, List.all_nil, plainOb, SV.refsL, SV.refs, Ob.refs, X, F, List.range_succ, List.range_zero, List.nil_append, List.cons_append, List.isEmpty_nil, decide_true, Nat.reduceLT, Bool.and_self, Bool.and_true, and_self, and_true, List.getElem?_cons_zero, List.getElem?_cons_succ, List.nodup_cons, List.nodup_nil, List.mem_cons, List.not_mem_nil, not_false_eq_true, or_false, List.append_nil, mkO, setO_mk, List.mem_singleton]) (by simp [SV.tr, SV.trL])
  · by_cases hk : (1048576 : Int) - (x.length : Int) < 0
    · refine is.go hm hΓ k_x_CountHolding o_x_CountHolding (by simp [a_x_CountHolding]) ?_
      simp only [a_x_CountHolding, h_szState, c_szState, h_toState, c_toState, h_toIntS, c_toIntS, h_s_CountHolding, c_CountHolding, h_CountHolding, c_CountHolding, h_eqState, c_eqState, h_eqIntS, c_eqIntS, hlp, hlu, hc, hk, hku, Int.reduceLE, Int.reduceNeg, Int.reduceLT, List.zipIdx_cons, List.zipIdx_nil, ↓SP, SQ, Gam.add, stepM, callC, argC, lendO, nmBy, nmC, likeL, likeB, plainOb, offs, X, F, trP, trO, stepD, stepW, newA, SV.tr, SV.trL, fz, allP, Ob.tr, loadA, cellsA, SV.cells, binA, binI, eqOut, isSl, isPt, natOf, callee, snap, SV.refsL, SV.refs, thaw, fzAll, loA, hiA, elemOf, partsA, buildA, putCells, ↓reduceIte, reduceCtorEq, okCell, Nat.reduceAdd, Nat.reduceEqDiff, Nat.reduceSub, Nat.reduceMul, Nat.reduceLeDiff, Nat.reduceLT, Nat.reduceBEq, PV.scal, PV.scalL, SV.scal, SV.scalL, Ob.scal, PV.isCell, pure', resO]
      exact finA_val (by simp [retA, rvA, List.mapM_cons, List.mapM_nil, Option.pure_def, Option.bind_eq_bind, Option.bind_some, Option.map_some, mkE_cons, mk_nil, mkO_cons, mkO_nil, loadA, ↓reduceIte, List.take_succ_cons, List.take_zero, List.drop_zero, List.drop_succ_cons, List.length_cons, List.length_nil, Nat.reduceAdd, Nat.reduceEqDiff, Nat.reduceLeDiff, Nat.zero_add, Nat.le_refl, reduceCtorEq, SV.tr, SV.trL, nmF, rn_nil, rn_cons1, rn_cons2, List.map_cons, List.map_nil, List.all_cons, List.all_nil, plainOb, SV.refsL, SV.refs, Ob.refs, X, F, List.range_succ, List.range_zero, List.nil_append, List.cons_append, List.isEmpty_nil, decide_true, Nat.reduceLT, Bool.and_self, Bool.and_true, and_self, and_true, List.getElem?_cons_zero, List.getElem?_cons_succ, List.nodup_cons, List.nodup_nil, List.mem_cons, List.not_mem_nil, not_false_eq_true, or_false, List.append_nil, mkO, setO_mk, List.mem_singleton]) (by simp [SV.tr, SV.trL])
    · have hlen : x.length ≤ 1048576 := by omega
      have hlen2 : x.length ≤ 1100000 := by omega
      have hlen3 : l.length ≤ 1048576 := by omega
      have hlen4 : l.length ≤ 1100000 := by omega
      generalize hg1 : (if isL x m l = true then (cntN x m l 2 : Int) else 0) = b1 at *
      generalize hg2 : isL x m l = b2 at *
      refine is.go hm hΓ k_x_CountHolding o_x_CountHolding (by simp [a_x_CountHolding]) ?_
      simp only [a_x_CountHolding, h_szState, c_szState, h_toState, c_toState, h_toIntS, c_toIntS, h_s_CountHolding, c_CountHolding, h_CountHolding, c_CountHolding, h_eqState, c_eqState, h_eqIntS, c_eqIntS, hx, hu, hlp, hlu, hc, hk, hku, hlen, hlen2, hlen3, hlen4, hg1, hg2, slI_sl, beq_self_eq_true, Bool.not_true, Int.reduceLE, Int.reduceNeg, Int.reduceLT, bne_self_eq_false, List.zipIdx_cons, List.zipIdx_nil, ↓SP, SQ, Gam.add, stepM, callC, argC, lendO, nmBy, nmC, likeL, likeB, plainOb, offs, X, F, trP, trO, stepD, stepW, newA, SV.tr, SV.trL, fz, allP, Ob.tr, loadA, cellsA, SV.cells, binA, binI, eqOut, isSl, isPt, natOf, callee, snap, SV.refsL, SV.refs, thaw, fzAll, loA, hiA, elemOf, partsA, buildA, putCells, ↓reduceIte, reduceCtorEq, okCell, Nat.reduceAdd, Nat.reduceEqDiff, Nat.reduceSub, Nat.reduceMul, Nat.reduceLeDiff, Nat.reduceLT, Nat.reduceBEq, PV.scal, PV.scalL, SV.scal, SV.scalL, Ob.scal, PV.isCell, pure', resO]
      exact finA_val (by simp [retA, rvA, List.mapM_cons, List.mapM_nil, Option.pure_def, Option.bind_eq_bind, Option.bind_some, Option.map_some, mkE_cons, mk_nil, mkO_cons, mkO_nil, loadA, ↓reduceIte, List.take_succ_cons, List.take_zero, List.drop_zero, List.drop_succ_cons, List.length_cons, List.length_nil, Nat.reduceAdd, Nat.reduceEqDiff, Nat.reduceLeDiff, Nat.zero_add, Nat.le_refl, reduceCtorEq, SV.tr, SV.trL, nmF, rn_nil, rn_cons1, rn_cons2, List.map_cons, List.map_nil, List.all_cons, List.all_nil, plainOb, SV.refsL, SV.refs, Ob.refs, X, F, List.range_succ, List.range_zero, List.nil_append, List.cons_append, List.isEmpty_nil, decide_true, Nat.reduceLT, Bool.and_self, Bool.and_true, and_self, and_true, List.getElem?_cons_zero, List.getElem?_cons_succ, List.nodup_cons, List.nodup_nil, List.mem_cons, List.not_mem_nil, not_false_eq_true, or_false, List.append_nil, mkO, setO_mk, List.mem_singleton]) (by simp [SV.tr, SV.trL])
def a_x_DoTell (f_szState : FuncId) (f_toState : FuncId) (f_toIntS : FuncId) (f_s_DoTell : FuncId) (f_DoTell : FuncId) (f_eqState : FuncId) (f_eqIntS : FuncId) : AFn := ⟨2, 
  .seq (.reg [⟨some 2, none, .w (.box 2 (.t 0))⟩,
    ⟨some 4, none, .d (.mv (.c (.bool false)))⟩])
  (.seq (.seq (.reg [⟨some 12, none, .d (.mv (.t 1))⟩,
    ⟨some 13, none, .d (.len (.t 12))⟩,
    ⟨some 14, none, .d (.bin .arith .gtr (.t 13) (.c (.int .i64 1048576)))⟩])
  (.cond (.t 14) (.seq (.reg [⟨some 4, none, .d (.mv (.c (.bool true)))⟩])
   (.ret)) (.skip)))
  (.seq (.reg [⟨some 5, none, .d (.mv (.c (.int .i64 1048576)))⟩])
  (.seq (.reg [⟨some 15, none, .d (.load true 2 (.t 2))⟩,
    ⟨some 16, none, .d (.mv (.t 5))⟩,
    ⟨some 17, none, .d (.call (.f f_szState) [(.t 15), (.t 16)])⟩,
    ⟨some 5, none, .d (.mv (.t 17))⟩])
  (.seq (.seq (.reg [⟨some 18, none, .d (.mv (.t 5))⟩,
    ⟨some 19, none, .d (.bin .arith .lss (.t 18) (.c (.int .i64 0)))⟩])
  (.cond (.t 19) (.seq (.reg [⟨some 4, none, .d (.mv (.c (.bool true)))⟩])
   (.ret)) (.skip)))
  (.seq (.reg [⟨some 21, none, .d (.load true 2 (.t 2))⟩,
    ⟨some 22, none, .d (.call (.f f_toState) [(.t 21)])⟩,
    ⟨some 23, none, .d (.mv (.t 1))⟩,
    ⟨some 24, none, .d (.call (.f f_toIntS) [(.t 23)])⟩,
    ⟨some 25, none, .d (.call (.f f_s_DoTell) [(.t 22), (.t 24)])⟩,
    ⟨some 20, none, .d (.mv (.t 25))⟩,
    ⟨some 26, none, .d (.extract (.t 20) 0)⟩,
    ⟨some 27, none, .d (.extract (.t 20) 1)⟩,
    ⟨some 6, none, .d (.mv (.t 26))⟩,
    ⟨some 7, none, .d (.mv (.t 27))⟩])
  (.seq (.reg [⟨some 28, none, .d (.load true 2 (.t 2))⟩,
    ⟨some 29, none, .d (.call (.f f_toState) [(.t 28)])⟩,
    ⟨some 8, none, .w (.alloc [.nilsl, .int .i64 0])⟩,
    ⟨none, none, .w (.store 2 (.t 8) (.t 29))⟩])
  (.seq (.reg [⟨some 30, none, .d (.mv (.t 1))⟩,
    ⟨some 31, none, .d (.call (.f f_toIntS) [(.t 30)])⟩,
    ⟨some 9, none, .d (.mv (.t 31))⟩])
  (.seq (.reg [⟨some 33, none, .d (.load true 2 (.t 8))⟩,
    ⟨some 34, none, .d (.mv (.t 9))⟩,
    ⟨some 35, none, .d (.call (.f f_DoTell) [(.t 33), (.t 34)])⟩,
    ⟨some 32, none, .d (.mv (.t 35))⟩,
    ⟨some 36, none, .d (.extract (.t 32) 0)⟩,
    ⟨some 37, none, .d (.extract (.t 32) 1)⟩,
    ⟨some 10, none, .d (.mv (.t 36))⟩,
    ⟨some 11, none, .d (.mv (.t 37))⟩])
  (.seq (.seq (.reg [⟨some 38, none, .d (.mv (.t 10))⟩,
    ⟨some 39, none, .d (.mv (.t 6))⟩,
    ⟨some 40, none, .d (.bin .bool .neq (.t 38) (.t 39))⟩,
    ⟨some 41, none, .d (.mv (.t 40))⟩,
    ⟨some 42, some (41, false), .d (.mv (.t 11))⟩,
    ⟨some 43, some (41, false), .d (.mv (.t 7))⟩,
    ⟨some 44, some (41, false), .d (.bin .bool .neq (.t 42) (.t 43))⟩,
    ⟨some 45, none, .d (.pick (.t 41) (.c (.bool true)) (.t 44))⟩])
  (.cond (.t 45) (.seq (.reg [⟨some 4, none, .d (.mv (.c (.bool false)))⟩])
   (.ret)) (.skip)))
  (.seq (.seq (.dreg [] [([], ⟨some 46, none, .d (.load true 2 (.t 8))⟩),
    ([], ⟨some 47, none, .d (.load true 2 (.t 2))⟩),
    ([], ⟨some 48, none, .d (.call (.f f_toState) [(.t 47)])⟩)] [⟨some 49, none, .d (.call (.f f_eqState) [(.t 46), (.t 48)])⟩,
    ⟨some 50, none, .d (.not (.t 49))⟩])
  (.cond (.t 50) (.seq (.reg [⟨some 4, none, .d (.mv (.c (.bool false)))⟩])
   (.ret)) (.skip)))
  (.seq (.seq (.reg [⟨some 51, none, .d (.mv (.t 9))⟩,
    ⟨some 52, none, .d (.mv (.t 1))⟩,
    ⟨some 53, none, .d (.call (.f f_toIntS) [(.t 52)])⟩,
    ⟨some 54, none, .d (.call (.f f_eqIntS) [(.t 51), (.t 53)])⟩,
    ⟨some 55, none, .d (.not (.t 54))⟩])
  (.cond (.t 55) (.seq (.reg [⟨some 4, none, .d (.mv (.c (.bool false)))⟩])
   (.ret)) (.skip)))
  (.seq (.reg [⟨some 4, none, .d (.mv (.c (.bool true)))⟩])
  (.ret))))))))))))), [.tmp 4]⟩
def n_x_DoTell : Nat → Option Ann := fun _ => none
abbrev k_x_DoTell : List Nat := [0, 1, 2, 4, 5, 6, 7, 8, 9, 10, 11, 14, 19, 45, 50, 55]
abbrev o_x_DoTell : List Nat := [2, 8]
def c_x_DoTell : Con := pure' fun
  | [.p (.agg [v, .int .i64 m]), .p u] => match slI v, slI u with
    | some x, some l => if x.length ≤ 9223372036854775807 ∧ l.length ≤ 9223372036854775807 then some (.p (.bool true), []) else none
    | _, _ => none
  | _ => none
set_option maxRecDepth 100000 in
theorem s_x_DoTell {P : Program} (hm : P.follows .mixedOrders = true) {Γ : Gam} (hΓ : GS P Γ) {n : FuncId} {f_szState : FuncId} {f_toState : FuncId} {f_toIntS : FuncId} {f_s_DoTell : FuncId} {f_DoTell : FuncId} {f_eqState : FuncId} {f_eqIntS : FuncId} (is : Is P n (a_x_DoTell f_szState f_toState f_toIntS f_s_DoTell f_DoTell f_eqState f_eqIntS)) (h_szState : Γ f_szState = c_szState) (h_toState : Γ f_toState = c_toState) (h_toIntS : Γ f_toIntS = c_toIntS) (h_s_DoTell : Γ f_s_DoTell = c_DoTell) (h_DoTell : Γ f_DoTell = c_DoTell) (h_eqState : Γ f_eqState = c_eqState) (h_eqIntS : Γ f_eqIntS = c_eqIntS)  : Says P n c_x_DoTell := by
  refine Says.pure fun args r fs h => ?_
  split at h
  case h_2 => cases h
  rename_i v m u
  split at h
  case h_2 => cases h
  rename_i x l hx hu
  split at h
  case isFalse => cases h
  rename_i hc
  simp only [Option.some.injEq, Prod.mk.injEq] at h
  obtain ⟨rfl, rfl⟩ := h
  have hlp := slI_lenP hx
  have hlu := slI_len hu
  by_cases hku : (l.length : Int) > 1048576
  · refine is.go hm hΓ k_x_DoTell o_x_DoTell (by simp [a_x_DoTell]) ?_
    simp only [a_x_DoTell, h_szState, c_szState, h_toState, c_toState, h_toIntS, c_toIntS, h_s_DoTell, c_DoTell, h_DoTell, c_DoTell, h_eqState, c_eqState, h_eqIntS, c_eqIntS, hlp, hlu, hc, hku, Int.reduceLE, Int.reduceNeg, Int.reduceLT, List.zipIdx_cons, List.zipIdx_nil, ↓SP, SQ, Gam.add, stepM, callC, argC, lendO, nmBy, nmC, likeL, likeB, plainOb, offs, X, F, trP, trO, stepD, stepW, newA, SV.tr, SV.trL, fz, allP, Ob.tr, loadA, cellsA, SV.cells, binA, binI, eqOut, isSl, isPt, natOf, callee, snap, SV.refsL, SV.refs, thaw, fzAll, loA, hiA, elemOf, partsA, buildA, putCells, ↓reduceIte, reduceCtorEq, okCell, Nat.reduceAdd, Nat.reduceEqDiff, Nat.reduceSub, Nat.reduceMul, Nat.reduceLeDiff, Nat.reduceLT, Nat.reduceBEq, PV.scal, PV.scalL, SV.scal, SV.scalL, Ob.scal, PV.isCell, pure', resO]
    exact finA_val (by simp [retA, rvA, List.mapM_cons, List.mapM_nil, Option.pure_def, Option.bind_eq_bind, Option.bind_some, Option.map_some, mkE_cons, mk_nil, mkO_cons, mkO_nil, loadA, ↓reduceIte, List.take_succ_cons, List.take_zero, List.drop_zero, List.drop_succ_cons, List.length_cons, List.length_nil, Nat.reduceAdd, Nat.reduceEqDiff, Nat.reduceLeDiff, Nat.zero_add, Nat.le_refl, reduceCtorEq, SV.tr, SV.trL, nmF, rn_nil, rn_cons1, rn_cons2, List.map_cons, List.map_nil, List.all_cons, List.all_nil, plainOb, SV.refsL, SV.refs, Ob.refs, X, F, List.range_succ, List.range_zero, List.nil_append, List.cons_append, List.isEmpty_nil, decide_true, Nat.reduceLT, Bool.and_self, Bool.and_true, and_self, and_true, List.getElem?_cons_zero, List.getElem?_cons_succ, List.nodup_cons, List.nodup_nil, List.mem_cons, List.not_mem_nil, not_false_eq_true, or_false, List.append_nil, mkO, setO_mk, List.mem_singleton]) (by simp [SV.tr, SV.trL])
  · by_cases hk : (1048576 : Int) - (x.length : Int) < 0
    · refine is.go hm hΓ k_x_DoTell o_x_DoTell (by simp [a_x_DoTell]) ?_
      simp only [a_x_DoTell, h_szState, c_szState, h_toState, c_toState, h_toIntS, c_toIntS, h_s_DoTell, c_DoTell, h_DoTell, c_DoTell, h_eqState, c_eqState, h_eqIntS, c_eqIntS, hlp, hlu, hc, hk, hku, Int.reduceLE, Int.reduceNeg, Int.reduceLT, List.zipIdx_cons, List.zipIdx_nil, ↓SP, SQ, Gam.add, stepM, callC, argC, lendO, nmBy, nmC, likeL, likeB, plainOb, offs, X, F, trP, trO, stepD, stepW, newA, SV.tr, SV.trL, fz, allP, Ob.tr, loadA, cellsA, SV.cells, binA, binI, eqOut, isSl, isPt, natOf, callee, snap, SV.refsL, SV.refs, thaw, fzAll, loA, hiA, elemOf, partsA, buildA, putCells, ↓reduceIte, reduceCtorEq, okCell, Nat.reduceAdd, Nat.reduceEqDiff, Nat.reduceSub, Nat.reduceMul, Nat.reduceLeDiff, Nat.reduceLT, Nat.reduceBEq, PV.scal, PV.scalL, SV.scal, SV.scalL, Ob.scal, PV.isCell, pure', resO]
      exact finA_val (by simp [retA, rvA, List.mapM_cons, List.mapM_nil, Option.pure_def, Option.bind_eq_bind, Option.bind_some, Option.map_some, mkE_cons, mk_nil, mkO_cons, mkO_nil, loadA, ↓reduceIte, List.take_succ_cons, List.take_zero, List.drop_zero, List.drop_succ_cons, List.length_cons, List.length_nil, Nat.reduceAdd, Nat.reduceEqDiff, Nat.reduceLeDiff, Nat.zero_add, Nat.le_refl, reduceCtorEq, SV.tr, SV.trL, nmF, rn_nil, rn_cons1, rn_cons2, List.map_cons, List.map_nil, List.all_cons, List.all_nil, plainOb, SV.refsL, SV.refs, Ob.refs, X, F, List.range_succ, List.range_zero, List.nil_append, List.cons_append, List.isEmpty_nil, decide_true, Nat.reduceLT, Bool.and_self, Bool.and_true, and_self, and_true, List.getElem?_cons_zero, List.getElem?_cons_succ, List.nodup_cons, List.nodup_nil, List.mem_cons, List.not_mem_nil, not_false_eq_true, or_false, List.append_nil, mkO, setO_mk, List.mem_singleton]) (by simp [SV.tr, SV.trL])
    · have hlen : x.length ≤ 1048576 := by omega
      have hlen2 : x.length ≤ 1100000 := by omega
      have hlen3 : l.length ≤ 1048576 := by omega
      have hlen4 : l.length ≤ 1100000 := by omega
      generalize hg1 : (isL x m l && ((cntN x m l 2 : Int) == 0)) = b1 at *
      generalize hg2 : isL x m l = b2 at *
      refine is.go hm hΓ k_x_DoTell o_x_DoTell (by simp [a_x_DoTell]) ?_
      simp only [a_x_DoTell, h_szState, c_szState, h_toState, c_toState, h_toIntS, c_toIntS, h_s_DoTell, c_DoTell, h_DoTell, c_DoTell, h_eqState, c_eqState, h_eqIntS, c_eqIntS, hx, hu, hlp, hlu, hc, hk, hku, hlen, hlen2, hlen3, hlen4, hg1, hg2, slI_sl, beq_self_eq_true, Bool.not_true, Int.reduceLE, Int.reduceNeg, Int.reduceLT, bne_self_eq_false, List.zipIdx_cons, List.zipIdx_nil, ↓SP, SQ, Gam.add, stepM, callC, argC, lendO, nmBy, nmC, likeL, likeB, plainOb, offs, X, F, trP, trO, stepD, stepW, newA, SV.tr, SV.trL, fz, allP, Ob.tr, loadA, cellsA, SV.cells, binA, binI, eqOut, isSl, isPt, natOf, callee, snap, SV.refsL, SV.refs, thaw, fzAll, loA, hiA, elemOf, partsA, buildA, putCells, ↓reduceIte, reduceCtorEq, okCell, Nat.reduceAdd, Nat.reduceEqDiff, Nat.reduceSub, Nat.reduceMul, Nat.reduceLeDiff, Nat.reduceLT, Nat.reduceBEq, PV.scal, PV.scalL, SV.scal, SV.scalL, Ob.scal, PV.isCell, pure', resO]
      exact finA_val (by simp [retA, rvA, List.mapM_cons, List.mapM_nil, Option.pure_def, Option.bind_eq_bind, Option.bind_some, Option.map_some, mkE_cons, mk_nil, mkO_cons, mkO_nil, loadA, ↓reduceIte, List.take_succ_cons, List.take_zero, List.drop_zero, List.drop_succ_cons, List.length_cons, List.length_nil, Nat.reduceAdd, Nat.reduceEqDiff, Nat.reduceLeDiff, Nat.zero_add, Nat.le_refl, reduceCtorEq, SV.tr, SV.trL, nmF, rn_nil, rn_cons1, rn_cons2, List.map_cons, List.map_nil, List.all_cons, List.all_nil, plainOb, SV.refsL, SV.refs, Ob.refs, X, F, List.range_succ, List.range_zero, List.nil_append, List.cons_append, List.isEmpty_nil, decide_true, Nat.reduceLT, Bool.and_self, Bool.and_true, and_self, and_true, List.getElem?_cons_zero, List.getElem?_cons_succ, List.nodup_cons, List.nodup_nil, List.mem_cons, List.not_mem_nil, not_false_eq_true, or_false, List.append_nil, mkO, setO_mk, List.mem_singleton]) (by simp [SV.tr, SV.trL])
def a_x_LongestHold (f_szState : FuncId) (f_toState : FuncId) (f_toIntS : FuncId) (f_s_LongestHold : FuncId) (f_LongestHold : FuncId) (f_eqState : FuncId) (f_eqIntS : FuncId) : AFn := ⟨2, 
  .seq (.reg [⟨some 2, none, .w (.box 2 (.t 0))⟩,
    ⟨some 4, none, .d (.mv (.c (.bool false)))⟩])
  (.seq (.seq (.reg [⟨some 12, none, .d (.mv (.t 1))⟩,
    ⟨some 13, none, .d (.len (.t 12))⟩,
    ⟨some 14, none, .d (.bin .arith .gtr (.t 13) (.c (.int .i64 1048576)))⟩])
  (.cond (.t 14) (.seq (.reg [⟨some 4, none, .d (.mv (.c (.bool true)))⟩])
   (.ret)) (.skip)))
  (.seq (.reg [⟨some 5, none, .d (.mv (.c (.int .i64 1048576)))⟩])
  (.seq (.reg [⟨some 15, none, .d (.load true 2 (.t 2))⟩,
    ⟨some 16, none, .d (.mv (.t 5))⟩,
    ⟨some 17, none, .d (.call (.f f_szState) [(.t 15), (.t 16)])⟩,
    ⟨some 5, none, .d (.mv (.t 17))⟩])
  (.seq (.seq (.reg [⟨some 18, none, .d (.mv (.t 5))⟩,
    ⟨some 19, none, .d (.bin .arith .lss (.t 18) (.c (.int .i64 0)))⟩])
  (.cond (.t 19) (.seq (.reg [⟨some 4, none, .d (.mv (.c (.bool true)))⟩])
   (.ret)) (.skip)))
  (.seq (.reg [⟨some 21, none, .d (.load true 2 (.t 2))⟩,
    ⟨some 22, none, .d (.call (.f f_toState) [(.t 21)])⟩,
    ⟨some 23, none, .d (.mv (.t 1))⟩,
    ⟨some 24, none, .d (.call (.f f_toIntS) [(.t 23)])⟩,
    ⟨some 25, none, .d (.call (.f f_s_LongestHold) [(.t 22), (.t 24)])⟩,
    ⟨some 20, none, .d (.mv (.t 25))⟩,
    ⟨some 26, none, .d (.extract (.t 20) 0)⟩,
    ⟨some 27, none, .d (.extract (.t 20) 1)⟩,
    ⟨some 6, none, .d (.mv (.t 26))⟩,
    ⟨some 7, none, .d (.mv (.t 27))⟩])
  (.seq (.reg [⟨some 28, none, .d (.load true 2 (.t 2))⟩,
    ⟨some 29, none, .d (.call (.f f_toState) [(.t 28)])⟩,
    ⟨some 8, none, .w (.alloc [.nilsl, .int .i64 0])⟩,
    ⟨none, none, .w (.store 2 (.t 8) (.t 29))⟩])
  (.seq (.reg [⟨some 30, none, .d (.mv (.t 1))⟩,
    ⟨some 31, none, .d (.call (.f f_toIntS) [(.t 30)])⟩,
    ⟨some 9, none, .d (.mv (.t 31))⟩])
  (.seq (.reg [⟨some 33, none, .d (.load true 2 (.t 8))⟩,
    ⟨some 34, none, .d (.mv (.t 9))⟩,
    ⟨some 35, none, .d (.call (.f f_LongestHold) [(.t 33), (.t 34)])⟩,
    ⟨some 32, none, .d (.mv (.t 35))⟩,
    ⟨some 36, none, .d (.extract (.t 32) 0)⟩,
    ⟨some 37, none, .d (.extract (.t 32) 1)⟩,
    ⟨some 10, none, .d (.mv (.t 36))⟩,
    ⟨some 11, none, .d (.mv (.t 37))⟩])
  (.seq (.seq (.reg [⟨some 38, none, .d (.mv (.t 10))⟩,
    ⟨some 39, none, .d (.mv (.t 6))⟩,
    ⟨some 40, none, .d (.bin .arith .neq (.t 38) (.t 39))⟩,
    ⟨some 41, none, .d (.mv (.t 40))⟩,
    ⟨some 42, some (41, false), .d (.mv (.t 11))⟩,
    ⟨some 43, some (41, false), .d (.mv (.t 7))⟩,
    ⟨some 44, some (41, false), .d (.bin .bool .neq (.t 42) (.t 43))⟩,
    ⟨some 45, none, .d (.pick (.t 41) (.c (.bool true)) (.t 44))⟩])
  (.cond (.t 45) (.seq (.reg [⟨some 4, none, .d (.mv (.c (.bool false)))⟩])
   (.ret)) (.skip)))
  (.seq (.seq (.dreg [] [([], ⟨some 46, none, .d (.load true 2 (.t 8))⟩),
    ([], ⟨some 47, none, .d (.load true 2 (.t 2))⟩),
    ([], ⟨some 48, none, .d (.call (.f f_toState) [(.t 47)])⟩)] [⟨some 49, none, .d (.call (.f f_eqState) [(.t 46), (.t 48)])⟩,
    ⟨some 50, none, .d (.not (.t 49))⟩])
  (.cond (.t 50) (.seq (.reg [⟨some 4, none, .d (.mv (.c (.bool false)))⟩])
   (.ret)) (.skip)))
  (.seq (.seq (.reg [⟨some 51, none, .d (.mv (.t 9))⟩,
    ⟨some 52, none, .d (.mv (.t 1))⟩,
    ⟨some 53, none, .d (.call (.f f_toIntS) [(.t 52)])⟩,
    ⟨some 54, none, .d (.call (.f f_eqIntS) [(.t 51), (.t 53)])⟩,
    ⟨some 55, none, .d (.not (.t 54))⟩])
  (.cond (.t 55) (.seq (.reg [⟨some 4, none, .d (.mv (.c (.bool false)))⟩])
   (.ret)) (.skip)))
  (.seq (.reg [⟨some 4, none, .d (.mv (.c (.bool true)))⟩])
  (.ret))))))))))))), [.tmp 4]⟩
def n_x_LongestHold : Nat → Option Ann := fun _ => none
abbrev k_x_LongestHold : List Nat := [0, 1, 2, 4, 5, 6, 7, 8, 9, 10, 11, 14, 19, 45, 50, 55]
abbrev o_x_LongestHold : List Nat := [2, 8]
def c_x_LongestHold : Con := pure' fun
  | [.p (.agg [v, .int .i64 m]), .p u] => match slI v, slI u with
    | some x, some l => if x.length ≤ 9223372036854775807 ∧ l.length ≤ 9223372036854775807 then some (.p (.bool true), []) else none
    | _, _ => none
  | _ => none
set_option maxRecDepth 100000 in
theorem s_x_LongestHold {P : Program} (hm : P.follows .mixedOrders = true) {Γ : Gam} (hΓ : GS P Γ) {n : FuncId} {f_szState : FuncId} {f_toState : FuncId} {f_toIntS : FuncId} {f_s_LongestHold : FuncId} {f_LongestHold : FuncId} {f_eqState : FuncId} {f_eqIntS : FuncId} (is : Is P n (a_x_LongestHold f_szState f_toState f_toIntS f_s_LongestHold f_LongestHold f_eqState f_eqIntS)) (h_szState : Γ f_szState = c_szState) (h_toState : Γ f_toState = c_toState) (h_toIntS : Γ f_toIntS = c_toIntS) (h_s_LongestHold : Γ f_s_LongestHold = c_LongestHold) (h_LongestHold : Γ f_LongestHold = c_LongestHold) (h_eqState : Γ f_eqState = c_eqState) (h_eqIntS : Γ f_eqIntS = c_eqIntS)  : Says P n c_x_LongestHold := by
  refine Says.pure fun args r fs h => ?_
  split at h
  case h_2 => cases h
  rename_i v m u
  split at h
  case h_2 => cases h
  rename_i x l hx hu
  split at h
  case isFalse => cases h
  rename_i hc
  simp only [Option.some.injEq, Prod.mk.injEq] at h
  obtain ⟨rfl, rfl⟩ := h
  have hlp := slI_lenP hx
  have hlu := slI_len hu
  by_cases hku : (l.length : Int) > 1048576
  · refine is.go hm hΓ k_x_LongestHold o_x_LongestHold (by simp [a_x_LongestHold]) ?_
    simp only [a_x_LongestHold, h_szState, c_szState, h_toState, c_toState, h_toIntS, c_toIntS, h_s_LongestHold, c_LongestHold, h_LongestHold, c_LongestHold, h_eqState, c_eqState, h_eqIntS, c_eqIntS, hlp, hlu, hc, hku, Int.reduceLE, Int.reduceNeg, Int.reduceLT, List.zipIdx_cons, List.zipIdx_nil, ↓SP, SQ, Gam.add, stepM, callC, argC, lendO, nmBy, nmC, likeL, likeB, plainOb, offs, X, F, trP, trO, stepD, stepW, newA, SV.tr, SV.trL, fz, allP, Ob.tr, loadA, cellsA, SV.cells, binA, binI, eqOut, isSl, isPt, natOf, callee, snap, SV.refsL, SV.refs, thaw, fzAll, loA, hiA, elemOf, partsA, buildA, putCells, ↓reduceIte, reduceCtorEq, okCell, Nat.reduceAdd, Nat.reduceEqDiff, Nat.reduceSub, Nat.reduceMul, Nat.reduceLeDiff, Nat.reduceLT, Nat.reduceBEq, PV.scal, PV.scalL, SV.scal, SV.scalL, Ob.scal, PV.isCell, pure', resO]
    exact finA_val (by simp [retA, rvA, List.mapM_cons, List.mapM_nil, Option.pure_def, Option.bind_eq_bind, Option.bind_some, Option.map_some, mkE_cons, mk_nil, mkO_cons, mkO_nil, loadA, ↓reduceIte, List.take_succ_cons, List.take_zero, List.drop_zero, List.drop_succ_cons, List.length_cons, List.length_nil, Nat.reduceAdd, Nat.reduceEqDiff, Nat.reduceLeDiff, Nat.zero_add, Nat.le_refl, reduceCtorEq, SV.tr, SV.trL, nmF, rn_nil, rn_cons1, rn_cons2, List.map_cons, List.map_nil, List.all_cons, List.all_nil, plainOb, SV.refsL, SV.refs, Ob.refs, X, F, List.range_succ, List.range_zero, List.nil_append, List.cons_append, List.isEmpty_nil, decide_true, Nat.reduceLT, Bool.and_self, Bool.and_true, and_self, and_true, List.getElem?_cons_zero, List.getElem?_cons_succ, List.nodup_cons, List.nodup_nil, List.mem_cons, List.not_mem_nil, not_false_eq_true, or_false, List.append_nil, mkO, setO_mk, List.mem_singleton]) (by simp [SV.tr, SV.trL])
  · by_cases hk : (1048576 : Int) - (x.length : Int) < 0
    · refine is.go hm hΓ k_x_LongestHold o_x_LongestHold (by simp [a_x_LongestHold]) ?_
      simp only [a_x_LongestHold, h_szState, c_szState, h_toState, c_toState, h_toIntS, c_toIntS, h_s_LongestHold, c_LongestHold, h_LongestHold, c_LongestHold, h_eqState, c_eqState, h_eqIntS, c_eqIntS, hlp, hlu, hc, hk, hku, Int.reduceLE, Int.reduceNeg, Int.reduceLT, List.zipIdx_cons, List.zipIdx_nil, ↓SP, SQ, Gam.add, stepM, callC, argC, lendO, nmBy, nmC, likeL, likeB, plainOb, offs, X, F, trP, trO, stepD, stepW, newA, SV.tr, SV.trL, fz, allP, Ob.tr, loadA, cellsA, SV.cells, binA, binI, eqOut, isSl, isPt, natOf, callee, snap, SV.refsL, SV.refs, thaw, fzAll, loA, hiA, elemOf, partsA, buildA, putCells, ↓reduceIte, reduceCtorEq, okCell, Nat.reduceAdd, Nat.reduceEqDiff, Nat.reduceSub, Nat.reduceMul, Nat.reduceLeDiff, Nat.reduceLT, Nat.reduceBEq, PV.scal, PV.scalL, SV.scal, SV.scalL, Ob.scal, PV.isCell, pure', resO]
      exact finA_val (by simp [retA, rvA, List.mapM_cons, List.mapM_nil, Option.pure_def, Option.bind_eq_bind, Option.bind_some, Option.map_some, mkE_cons, mk_nil, mkO_cons, mkO_nil, loadA, ↓reduceIte, List.take_succ_cons, List.take_zero, List.drop_zero, List.drop_succ_cons, List.length_cons, List.length_nil, Nat.reduceAdd, Nat.reduceEqDiff, Nat.reduceLeDiff, Nat.zero_add, Nat.le_refl, reduceCtorEq, SV.tr, SV.trL, nmF, rn_nil, rn_cons1, rn_cons2, List.map_cons, List.map_nil, List.all_cons, List.all_nil, plainOb, SV.refsL, SV.refs, Ob.refs, X, F, List.range_succ, List.range_zero, List.nil_append, List.cons_append, List.isEmpty_nil, decide_true, Nat.reduceLT, Bool.and_self, Bool.and_true, and_self, and_true, List.getElem?_cons_zero, List.getElem?_cons_succ, List.nodup_cons, List.nodup_nil, List.mem_cons, List.not_mem_nil, not_false_eq_true, or_false, List.append_nil, mkO, setO_mk, List.mem_singleton]) (by simp [SV.tr, SV.trL])
    · have hlen : x.length ≤ 1048576 := by omega
      have hlen2 : x.length ≤ 1100000 := by omega
      have hlen3 : l.length ≤ 1048576 := by omega
      have hlen4 : l.length ≤ 1100000 := by omega
      generalize hg1 : (if isL x m l = true then longI x m l (l.length + 1) else 0) = b1 at *
      generalize hg2 : isL x m l = b2 at *
      refine is.go hm hΓ k_x_LongestHold o_x_LongestHold (by simp [a_x_LongestHold]) ?_
      simp only [a_x_LongestHold, h_szState, c_szState, h_toState, c_toState, h_toIntS, c_toIntS, h_s_LongestHold, c_LongestHold, h_LongestHold, c_LongestHold, h_eqState, c_eqState, h_eqIntS, c_eqIntS, hx, hu, hlp, hlu, hc, hk, hku, hlen, hlen2, hlen3, hlen4, hg1, hg2, slI_sl, beq_self_eq_true, Bool.not_true, Int.reduceLE, Int.reduceNeg, Int.reduceLT, bne_self_eq_false, List.zipIdx_cons, List.zipIdx_nil, ↓SP, SQ, Gam.add, stepM, callC, argC, lendO, nmBy, nmC, likeL, likeB, plainOb, offs, X, F, trP, trO, stepD, stepW, newA, SV.tr, SV.trL, fz, allP, Ob.tr, loadA, cellsA, SV.cells, binA, binI, eqOut, isSl, isPt, natOf, callee, snap, SV.refsL, SV.refs, thaw, fzAll, loA, hiA, elemOf, partsA, buildA, putCells, ↓reduceIte, reduceCtorEq, okCell, Nat.reduceAdd, Nat.reduceEqDiff, Nat.reduceSub, Nat.reduceMul, Nat.reduceLeDiff, Nat.reduceLT, Nat.reduceBEq, PV.scal, PV.scalL, SV.scal, SV.scalL, Ob.scal, PV.isCell, pure', resO]
      exact finA_val (by simp [retA, rvA, List.mapM_cons, List.mapM_nil, Option.pure_def, Option.bind_eq_bind, Option.bind_some, Option.map_some, mkE_cons, mk_nil, mkO_cons, mkO_nil, loadA, ↓reduceIte, List.take_succ_cons, List.take_zero, List.drop_zero, List.drop_succ_cons, List.length_cons, List.length_nil, Nat.reduceAdd, Nat.reduceEqDiff, Nat.reduceLeDiff, Nat.zero_add, Nat.le_refl, reduceCtorEq, SV.tr, SV.trL, nmF, rn_nil, rn_cons1, rn_cons2, List.map_cons, List.map_nil, List.all_cons, List.all_nil, plainOb, SV.refsL, SV.refs, Ob.refs, X, F, List.range_succ, List.range_zero, List.nil_append, List.cons_append, List.isEmpty_nil, decide_true, Nat.reduceLT, Bool.and_self, Bool.and_true, and_self, and_true, List.getElem?_cons_zero, List.getElem?_cons_succ, List.nodup_cons, List.nodup_nil, List.mem_cons, List.not_mem_nil, not_false_eq_true, or_false, List.append_nil, mkO, setO_mk, List.mem_singleton]) (by simp [SV.tr, SV.trL])
end Go.Proofs.Ytnonkjcklgihhaa.Pam
