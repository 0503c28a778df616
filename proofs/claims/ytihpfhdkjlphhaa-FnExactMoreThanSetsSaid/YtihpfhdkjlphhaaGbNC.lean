/- A part of the proof that stands in this folder: a small machine whose steps are shown to be the steps of the model, or walks of functions by it. No condition of its own. -/
import Derived.Test.YtihpfhdkjlphhaaGbNA
set_option linter.unusedVariables false
set_option linter.unusedSimpArgs false
namespace Go.Proofs.Ytihpfhdkjlphhaa.Pam
open Go
/-- The question of a comparison. -/
def lsQ (k : Nat) : Int := ((2 ^ k : Nat) : Int) - 1
theorem bit_ls : ∀ k : Nat, k < 6 → ∀ i : Nat, i < 5 → (bitW (lsQ k) (i : Int) == 1) = decide (i < k) := by decide
theorem aft_ls {k : Nat} (hk : k ≤ 5) {m : Int} {y : Bool} {x : List Int} (hx : x.length ≤ 5) : afterL (fun i => (bitW (lsQ k) (i : Int) == 1) != y) m x = aftL m k y x := by
  simp only [aftL, afterL]
  apply List.map_congr_left
  intro i hi
  have hi := List.mem_range.1 hi
  simp only [afterF, bit_ls k (by omega) i (by omega)]
theorem shl5 {k : Nat} (h : k ≤ 5) : IntKind.i64.wrap (1 * 2 ^ min k IntKind.i64.bits) = ((2 ^ k : Nat) : Int) ∧ IntKind.i64.wrap (((2 ^ k : Nat) : Int) - 1) = lsQ k := by
  have : k = 0 ∨ k = 1 ∨ k = 2 ∨ k = 3 ∨ k = 4 ∨ k = 5 := by omega
  rcases this with h | h | h | h | h | h <;> subst h <;> decide
theorem sh_1000 {x : List Int} {m : Int} (h : isSh x m = true) : (x.all fun v => decide (v ≤ 1000)) = true := by
  obtain ⟨_, _, hm, h4⟩ := sh_out h
  rw [List.all_eq_true]
  intro v hv
  have := h4 v hv
  rw [decide_eq_true_eq]; omega
theorem sh_len {x : List Int} {m : Int} (h : isSh x m = true) : x.length ≤ 1100000 := by have := (sh_out h).2.1; omega
def a_less : AFn := ⟨1, 
  .seq (.reg [⟨some 2, none, .d (.mv (.c (.int .i64 0)))⟩])
  (.seq (.reg [⟨some 3, none, .d (.mv (.t 0))⟩,
    ⟨some 4, none, .d (.bin .arith .shl (.c (.int .i64 1)) (.t 3))⟩,
    ⟨some 5, none, .d (.bin .arith .sub (.t 4) (.c (.int .i64 1)))⟩,
    ⟨some 2, none, .d (.mv (.t 5))⟩])
  (.ret)), [.tmp 2]⟩
def n_less : Nat → Option Ann := fun _ => none
abbrev k_less : List Nat := [0, 2]
abbrev o_less : List Nat := []
def c_less : Con := pure' fun
  | [.p (.int .i64 k)] => if (0 ≤ k ∧ k ≤ 5) then some (.p (.int .i64 (lsQ k.toNat)), []) else none
  | _ => none
theorem s_less {P : Program} (hm : P.follows .mixedOrders = true) {Γ : Gam} (hΓ : GS P Γ) {n : FuncId} (is : Is P n a_less)  : Says P n c_less := by
  refine Says.pure fun args r fs h => ?_
  split at h
  case h_2 => cases h
  rename_i k
  split at h
  case isFalse => cases h
  rename_i hc
  simp only [ofI_ints, ofBo_bools, ofAs_asks, Option.some.injEq, Prod.mk.injEq] at h hc
  obtain ⟨rfl, rfl⟩ := h
  obtain ⟨h0, h1⟩ := hc
  obtain ⟨k, rfl⟩ : ∃ j : Nat, k = j := ⟨k.toNat, by omega⟩
  obtain ⟨s1, s2⟩ := shl5 (k := k) (by omega)
  have hn : ¬ (k : Int) < 0 := by omega
  simp only [Int.toNat_natCast]
  refine is.go hm hΓ k_less o_less (by simp [a_less]) ?_
  simp only [a_less, s1, s2, hn, Int.toNat_natCast, List.zipIdx_cons, List.zipIdx_nil, ↓SP, SQ, Gam.add, stepM, callC, argC, lendO, nmBy, nmC, likeL, likeB, plainOb, offs, exL, X, F, trP, trO, stepD, stepW, newA, SV.tr, SV.trL, fz, allP, Ob.tr, loadA, cellsA, SV.cells, binA, binI, eqOut, isSl, isPt, natOf, callee, snap, SV.refsL, SV.refs, thaw, fzAll, loA, hiA, elemOf, partsA, buildA, putCells, ↓reduceIte, reduceCtorEq, okCell, Nat.reduceAdd, Nat.reduceEqDiff, Nat.reduceSub, Nat.reduceMul, Nat.reduceLeDiff, Nat.reduceLT, Nat.reduceBEq, PV.scal, PV.scalL, SV.scal, SV.scalL, Ob.scal, PV.isCell, pure', resO]
  exact finA_val (by simp [retA, rvA, List.mapM_cons, List.mapM_nil, Option.pure_def, Option.bind_eq_bind, Option.bind_some, Option.map_some, mkE_cons, mk_nil, mkO_cons, mkO_nil, loadA, ↓reduceIte, List.take_succ_cons, List.take_zero, List.drop_zero, List.drop_succ_cons, List.length_cons, List.length_nil, Nat.reduceAdd, Nat.reduceEqDiff, Nat.reduceLeDiff, Nat.zero_add, Nat.le_refl, reduceCtorEq, SV.tr, SV.trL, nmF, rn_nil, rn_cons1, rn_cons2, List.map_cons, List.map_nil, List.all_cons, List.all_nil, plainOb, SV.refsL, SV.refs, Ob.refs, X, F, List.range_succ, List.range_zero, List.nil_append, List.cons_append, List.isEmpty_nil, decide_true, Nat.reduceLT, Bool.and_self, Bool.and_true, and_self, and_true, List.getElem?_cons_zero, List.getElem?_cons_succ, List.nodup_cons, List.nodup_nil, List.mem_cons, List.not_mem_nil, not_false_eq_true, or_false, List.append_nil, mkO, setO_mk, List.mem_singleton]) (by simp [SV.tr, SV.trL])
def a_bothA (f_answered : FuncId) : AFn := ⟨2, 
  .seq (.reg [⟨some 2, none, .w (.box 2 (.t 0))⟩,
    ⟨some 4, none, .w (.alloc [.nilsl, .int .i64 0, .nilsl, .int .i64 0])⟩])
  (.seq (.dreg [] [([], ⟨some 5, none, .d (.load true 2 (.t 2))⟩),
    ([], ⟨some 6, none, .d (.mv (.t 1))⟩),
    ([], ⟨some 7, none, .d (.build [.int .i64 0, .bool false] [(0, 1, (.t 6)), (1, 1, (.c (.bool false)))])⟩),
    ([], ⟨some 8, none, .d (.call (.f f_answered) [(.t 5), (.t 7)])⟩),
    ([], ⟨some 9, none, .d (.load true 2 (.t 2))⟩),
    ([], ⟨some 10, none, .d (.mv (.t 1))⟩),
    ([], ⟨some 11, none, .d (.build [.int .i64 0, .bool false] [(0, 1, (.t 10)), (1, 1, (.c (.bool true)))])⟩)] [⟨some 12, none, .d (.call (.f f_answered) [(.t 9), (.t 11)])⟩,
    ⟨some 13, none, .d (.build [.nilsl, .int .i64 0, .nilsl, .int .i64 0] [(0, 2, (.t 8)), (2, 2, (.t 12))])⟩,
    ⟨none, none, .w (.store 4 (.t 4) (.t 13))⟩])
  (.ret)), [.cell 4 4 true]⟩
def n_bothA : Nat → Option Ann := fun _ => none
abbrev k_bothA : List Nat := [0, 1, 2, 4]
abbrev o_bothA : List Nat := [2, 4]
def c_bothA : Con := pure' fun
  | [.p (.agg [.sl 1 x_, .int .i64 m]), .p (.int .i64 q)] => if isI x_ = true ∧ ((ofI x_).length ≤ 1100000 ∧ ((ofI x_).all fun v => decide (v ≤ 1000)) = true) then some (.ag [.p (.sl 1 (ints (afterL (fun i => (bitW q (i : Int) == 1) != false) m (ofI x_)))), .p (.int .i64 m), .p (.sl 1 (ints (afterL (fun i => (bitW q (i : Int) == 1) != true) m (ofI x_)))), .p (.int .i64 m)], []) else none
  | _ => none
theorem s_bothA {P : Program} (hm : P.follows .mixedOrders = true) {Γ : Gam} (hΓ : GS P Γ) {n : FuncId} {f_answered : FuncId} (is : Is P n (a_bothA f_answered)) (h_answered : Γ f_answered = c_answered)  : Says P n c_bothA := by
  refine Says.pure fun args r fs h => ?_
  split at h
  case h_2 => cases h
  rename_i x_ m q
  split at h
  case isFalse => cases h
  rename_i hc
  obtain ⟨hx_, hc⟩ := hc
  obtain ⟨x, rfl⟩ := isI_out hx_
  simp only [ofI_ints, ofBo_bools, ofAs_asks, Option.some.injEq, Prod.mk.injEq] at h hc
  obtain ⟨rfl, rfl⟩ := h
  refine is.go hm hΓ k_bothA o_bothA (by simp [a_bothA]) ?_
  simp only [a_bothA, h_answered, c_answered, hc, List.zipIdx_cons, List.zipIdx_nil, ↓SP, SQ, Gam.add, stepM, callC, argC, lendO, nmBy, nmC, likeL, likeB, plainOb, offs, exL, X, F, trP, trO, stepD, stepW, newA, SV.tr, SV.trL, fz, allP, Ob.tr, loadA, cellsA, SV.cells, binA, binI, eqOut, isSl, isPt, natOf, callee, snap, SV.refsL, SV.refs, thaw, fzAll, loA, hiA, elemOf, partsA, buildA, putCells, ↓reduceIte, reduceCtorEq, okCell, Nat.reduceAdd, Nat.reduceEqDiff, Nat.reduceSub, Nat.reduceMul, Nat.reduceLeDiff, Nat.reduceLT, Nat.reduceBEq, PV.scal, PV.scalL, SV.scal, SV.scalL, Ob.scal, PV.isCell, pure', resO]
  exact finA_val (by simp [retA, rvA, List.mapM_cons, List.mapM_nil, Option.pure_def, Option.bind_eq_bind, Option.bind_some, Option.map_some, mkE_cons, mk_nil, mkO_cons, mkO_nil, loadA, ↓reduceIte, List.take_succ_cons, List.take_zero, List.drop_zero, List.drop_succ_cons, List.length_cons, List.length_nil, Nat.reduceAdd, Nat.reduceEqDiff, Nat.reduceLeDiff, Nat.zero_add, Nat.le_refl, reduceCtorEq, SV.tr, SV.trL, nmF, rn_nil, rn_cons1, rn_cons2, List.map_cons, List.map_nil, List.all_cons, List.all_nil, plainOb, SV.refsL, SV.refs, Ob.refs, X, F, List.range_succ, List.range_zero, List.nil_append, List.cons_append, List.isEmpty_nil, decide_true, Nat.reduceLT, Bool.and_self, Bool.and_true, and_self, and_true, List.getElem?_cons_zero, List.getElem?_cons_succ, List.nodup_cons, List.nodup_nil, List.mem_cons, List.not_mem_nil, not_false_eq_true, or_false, List.append_nil, mkO, setO_mk, List.mem_singleton]) (by simp [SV.tr, SV.trL])
theorem ky_small {b : Nat} (hb : b = 2 ∨ b = 3) {x : List Int} (h : inB b x = true) (hl : x.length ≤ 5) {i : Nat} (hi : i ≤ x.length) : 0 ≤ kyI b x i ∧ kyI b x i ≤ 243 := by
  obtain ⟨h0, h1, _⟩ := ky_dg (b := b) (by omega) h i hi
  have : b ^ i ≤ 3 ^ 5 := Nat.le_trans (Nat.pow_le_pow_left (by omega) i) (Nat.pow_le_pow_right (by omega) (by omega))
  exact ⟨h0, by omega⟩
def a_codeS : AFn := ⟨1, 
  .seq (.reg [⟨some 1, none, .w (.box 2 (.t 0))⟩,
    ⟨some 2, none, .d (.mv (.c (.int .i64 0)))⟩])
  (.seq (.reg [⟨some 3, none, .d (.mv (.c (.int .i64 0)))⟩])
  (.seq (.seq (.reg [⟨some 6, none, .d (.fa 0 (.t 1))⟩,
    ⟨some 7, none, .d (.load false 1 (.t 6))⟩,
    ⟨some 8, none, .d (.len (.t 7))⟩,
    ⟨some 9, none, .d (.mv (.c (.int .i64 0)))⟩])
  (.block 0 (.loop (.seq (.reg [⟨some 10, none, .d (.bin .arith .lss (.t 9) (.t 8))⟩])
    (.seq (.cond (.t 10) (.skip) (.exit 0))
    (.seq (.block 1 (.seq (.reg [⟨some 11, none, .d (.ia 1 (.t 7) (.t 9))⟩,
       ⟨some 12, none, .d (.load false 1 (.t 11))⟩,
       ⟨some 5, none, .d (.mv (.t 12))⟩])
     (.reg [⟨some 13, none, .d (.mv (.t 3))⟩,
       ⟨some 14, none, .d (.bin .arith .mul (.t 13) (.c (.int .i64 3)))⟩,
       ⟨some 15, none, .d (.mv (.t 5))⟩,
       ⟨some 16, none, .d (.bin .arith .add (.t 14) (.t 15))⟩,
       ⟨some 17, none, .d (.bin .arith .add (.t 16) (.c (.int .i64 1)))⟩,
       ⟨some 3, none, .d (.mv (.t 17))⟩])))
    (.reg [⟨some 18, none, .d (.bin .arith .add (.t 9) (.c (.int .i64 1)))⟩,
      ⟨some 9, none, .d (.mv (.t 18))⟩])))))))
  (.seq (.reg [⟨some 19, none, .d (.mv (.t 3))⟩,
    ⟨some 2, none, .d (.mv (.t 19))⟩])
  (.ret)))), [.tmp 2]⟩
def n_codeS : Nat → Option Ann := fun _ => none
abbrev k_codeS : List Nat := [0, 1, 2, 3, 5, 7, 8, 9, 10]
abbrev o_codeS : List Nat := [1]
def c_codeS : Con := pure' fun
  | [.p (.agg [.sl 1 x_, .int .i64 m])] => if isI x_ = true ∧ (isSh (ofI x_) m = true) then some (.p (.int .i64 (kyL 3 (ofI x_))), []) else none
  | _ => none
theorem s_codeS {P : Program} (hm : P.follows .mixedOrders = true) {Γ : Gam} (hΓ : GS P Γ) {n : FuncId} (is : Is P n a_codeS)  : Says P n c_codeS := by
  refine Says.pure fun args r fs h => ?_
  split at h
  case h_2 => cases h
  rename_i x_ m
  split at h
  case isFalse => cases h
  rename_i hc
  obtain ⟨hx_, hc⟩ := hc
  obtain ⟨x, rfl⟩ := isI_out hx_
  simp only [ofI_ints, ofBo_bools, ofAs_asks, Option.some.injEq, Prod.mk.injEq] at h hc
  obtain ⟨rfl, rfl⟩ := h
  have hin := (sh_in hc).2
  obtain ⟨hl1, hl5, hmm, hv⟩ := sh_out hc
  refine is.go hm hΓ k_codeS o_codeS (by simp [a_codeS]) ?_
  simp only [a_codeS, List.zipIdx_cons, List.zipIdx_nil, ↓SP, SQ, Gam.add, stepM, callC, argC, lendO, nmBy, nmC, likeL, likeB, plainOb, offs, exL, X, F, trP, trO, stepD, stepW, newA, SV.tr, SV.trL, fz, allP, Ob.tr, loadA, cellsA, SV.cells, binA, binI, eqOut, isSl, isPt, natOf, callee, snap, SV.refsL, SV.refs, thaw, fzAll, loA, hiA, elemOf, partsA, buildA, putCells, ↓reduceIte, reduceCtorEq, okCell, Nat.reduceAdd, Nat.reduceEqDiff, Nat.reduceSub, Nat.reduceMul, Nat.reduceLeDiff, Nat.reduceLT, Nat.reduceBEq, PV.scal, PV.scalL, SV.scal, SV.scalL, Ob.scal, PV.isCell, pure', resO]
  refine loop_at (fun s : Nat × SV × SV => mkEnv [(0, .p (.agg [.sl 1 (ints x), .int .i64 m])), (1, .bx 1 0), (2, si 0), (3, si (kyI 3 x s.1)), (5, s.2.1), (7, .p (.sl 1 (ints x))), (8, si x.length), (9, si s.1), (10, s.2.2)]) (fun _ => mkO [(1, some (.box [.p (.sl 1 (ints x)), si m]))]) (fun s => s.1 ≤ x.length) (fun s => x.length - s.1) (0, .junk, .junk) (by simp) rfl rfl ?_
  rintro ⟨i, c1, c2⟩ hi R hR hN
  simp only at hi
  by_cases h : i < x.length
  · have h1 : (i : Int) < x.length := by omega
    have hw := wrap_one (i := i) (by omega)
    have hg := ints_get h
    obtain ⟨b0, b1⟩ : 0 ≤ kyI 3 x i ∧ kyI 3 x i ≤ 243 := ky_small (b := 3) (.inr rfl) hin hl5 (i := i) hi
    obtain ⟨v0, v1⟩ := inB_get hin h
    have w1 : IntKind.i64.wrap (kyI 3 x i * 3) = kyI 3 x i * 3 := wrap64 (by omega) (by omega)
    have w2 : IntKind.i64.wrap (kyI 3 x i * 3 + x.getD i 0) = kyI 3 x i * 3 + x.getD i 0 := wrap64 (by omega) (by omega)
    have w3 : IntKind.i64.wrap (kyI 3 x i * 3 + x.getD i 0 + 1) = kyI 3 x (i + 1) := by rw [wrap64 (by omega) (by omega)]; rfl
    simp only [h1, hw, hg, w1, w2, w3, ↓SP, SQ, Gam.add, stepM, callC, argC, lendO, nmBy, nmC, likeL, likeB, plainOb, offs, exL, X, F, trP, trO, stepD, stepW, newA, SV.tr, SV.trL, fz, allP, Ob.tr, loadA, cellsA, SV.cells, binA, binI, eqOut, isSl, isPt, natOf, callee, snap, SV.refsL, SV.refs, thaw, fzAll, loA, hiA, elemOf, partsA, buildA, putCells, ↓reduceIte, reduceCtorEq, okCell, Nat.reduceAdd, Nat.reduceEqDiff, Nat.reduceSub, Nat.reduceMul, Nat.reduceLeDiff, Nat.reduceLT, Nat.reduceBEq, PV.scal, PV.scalL, SV.scal, SV.scalL, Ob.scal, PV.isCell, pure', resO]
    exact hN (i + 1, _, _) _ _ (by simp only; omega) (by simp only; omega) rfl rfl
  · have he : i = x.length := by omega
    have h1 : ¬ (i : Int) < x.length := by omega
    simp only [h1, ↓SP, SQ, Gam.add, stepM, callC, argC, lendO, nmBy, nmC, likeL, likeB, plainOb, offs, exL, X, F, trP, trO, stepD, stepW, newA, SV.tr, SV.trL, fz, allP, Ob.tr, loadA, cellsA, SV.cells, binA, binI, eqOut, isSl, isPt, natOf, callee, snap, SV.refsL, SV.refs, thaw, fzAll, loA, hiA, elemOf, partsA, buildA, putCells, ↓reduceIte, reduceCtorEq, okCell, Nat.reduceAdd, Nat.reduceEqDiff, Nat.reduceSub, Nat.reduceMul, Nat.reduceLeDiff, Nat.reduceLT, Nat.reduceBEq, PV.scal, PV.scalL, SV.scal, SV.scalL, Ob.scal, PV.isCell, pure', resO]
    refine hR _ _ _ (by intro h; cases h) ?_
    simp only [↓SP, SQ, Gam.add, stepM, callC, argC, lendO, nmBy, nmC, likeL, likeB, plainOb, offs, exL, X, F, trP, trO, stepD, stepW, newA, SV.tr, SV.trL, fz, allP, Ob.tr, loadA, cellsA, SV.cells, binA, binI, eqOut, isSl, isPt, natOf, callee, snap, SV.refsL, SV.refs, thaw, fzAll, loA, hiA, elemOf, partsA, buildA, putCells, ↓reduceIte, reduceCtorEq, okCell, Nat.reduceAdd, Nat.reduceEqDiff, Nat.reduceSub, Nat.reduceMul, Nat.reduceLeDiff, Nat.reduceLT, Nat.reduceBEq, PV.scal, PV.scalL, SV.scal, SV.scalL, Ob.scal, PV.isCell, pure', resO]
    subst he
    exact finA_val (by simp [kyL, retA, rvA, List.mapM_cons, List.mapM_nil, Option.pure_def, Option.bind_eq_bind, Option.bind_some, Option.map_some, mkE_cons, mk_nil, mkO_cons, mkO_nil, loadA, ↓reduceIte, List.take_succ_cons, List.take_zero, List.drop_zero, List.drop_succ_cons, List.length_cons, List.length_nil, Nat.reduceAdd, Nat.reduceEqDiff, Nat.reduceLeDiff, Nat.zero_add, Nat.le_refl, reduceCtorEq, SV.tr, SV.trL, nmF, rn_nil, rn_cons1, rn_cons2, List.map_cons, List.map_nil, List.all_cons, List.all_nil, plainOb, SV.refsL, SV.refs, Ob.refs, X, F, List.range_succ, List.range_zero, List.nil_append, List.cons_append, List.isEmpty_nil, decide_true, Nat.reduceLT, Bool.and_self, Bool.and_true, and_self, and_true, List.getElem?_cons_zero, List.getElem?_cons_succ, List.nodup_cons, List.nodup_nil, List.mem_cons, List.not_mem_nil, not_false_eq_true, or_false, List.append_nil, mkO, setO_mk, List.mem_singleton]) (by simp [SV.tr, SV.trL])
def a_isEqualS (f_codeS : FuncId) : AFn := ⟨2, 
  .seq (.reg [⟨some 2, none, .w (.box 2 (.t 0))⟩,
    ⟨some 3, none, .w (.box 2 (.t 1))⟩,
    ⟨some 4, none, .d (.mv (.c (.bool false)))⟩])
  (.seq (.dreg [] [([], ⟨some 5, none, .d (.load true 2 (.t 2))⟩),
    ([], ⟨some 6, none, .d (.call (.f f_codeS) [(.t 5)])⟩),
    ([], ⟨some 7, none, .d (.load true 2 (.t 3))⟩)] [⟨some 8, none, .d (.call (.f f_codeS) [(.t 7)])⟩,
    ⟨some 9, none, .d (.bin .arith .eql (.t 6) (.t 8))⟩,
    ⟨some 4, none, .d (.mv (.t 9))⟩])
  (.ret)), [.tmp 4]⟩
def n_isEqualS : Nat → Option Ann := fun _ => none
abbrev k_isEqualS : List Nat := [0, 1, 2, 3, 4]
abbrev o_isEqualS : List Nat := [2, 3]
def c_isEqualS : Con := pure' fun
  | [.p (.agg [.sl 1 x_, .int .i64 m]), .p (.agg [.sl 1 y_, .int .i64 q])] => if isI x_ = true ∧ isI y_ = true ∧ (isSh (ofI x_) m = true ∧ isSh (ofI y_) q = true) then some (.p (.bool (decide (kyL 3 (ofI x_) = kyL 3 (ofI y_)))), []) else none
  | _ => none
theorem s_isEqualS {P : Program} (hm : P.follows .mixedOrders = true) {Γ : Gam} (hΓ : GS P Γ) {n : FuncId} {f_codeS : FuncId} (is : Is P n (a_isEqualS f_codeS)) (h_codeS : Γ f_codeS = c_codeS)  : Says P n c_isEqualS := by
  refine Says.pure fun args r fs h => ?_
  split at h
  case h_2 => cases h
  rename_i x_ m y_ q
  split at h
  case isFalse => cases h
  rename_i hc
  obtain ⟨hx_, hc⟩ := hc
  obtain ⟨x, rfl⟩ := isI_out hx_
  obtain ⟨hy_, hc⟩ := hc
  obtain ⟨y, rfl⟩ := isI_out hy_
  simp only [ofI_ints, ofBo_bools, ofAs_asks, Option.some.injEq, Prod.mk.injEq] at h hc
  obtain ⟨rfl, rfl⟩ := h
  by_cases he : kyL 3 x = kyL 3 y
  · refine is.go hm hΓ k_isEqualS o_isEqualS (by simp [a_isEqualS]) ?_
    simp only [a_isEqualS, h_codeS, c_codeS, hc, he, beq_self_eq_true, List.zipIdx_cons, List.zipIdx_nil, ↓SP, SQ, Gam.add, stepM, callC, argC, lendO, nmBy, nmC, likeL, likeB, plainOb, offs, exL, X, F, trP, trO, stepD, stepW, newA, SV.tr, SV.trL, fz, allP, Ob.tr, loadA, cellsA, SV.cells, binA, binI, eqOut, isSl, isPt, natOf, callee, snap, SV.refsL, SV.refs, thaw, fzAll, loA, hiA, elemOf, partsA, buildA, putCells, ↓reduceIte, reduceCtorEq, okCell, Nat.reduceAdd, Nat.reduceEqDiff, Nat.reduceSub, Nat.reduceMul, Nat.reduceLeDiff, Nat.reduceLT, Nat.reduceBEq, PV.scal, PV.scalL, SV.scal, SV.scalL, Ob.scal, PV.isCell, pure', resO]
    exact finA_val (by simp [he, retA, rvA, List.mapM_cons, List.mapM_nil, Option.pure_def, Option.bind_eq_bind, Option.bind_some, Option.map_some, mkE_cons, mk_nil, mkO_cons, mkO_nil, loadA, ↓reduceIte, List.take_succ_cons, List.take_zero, List.drop_zero, List.drop_succ_cons, List.length_cons, List.length_nil, Nat.reduceAdd, Nat.reduceEqDiff, Nat.reduceLeDiff, Nat.zero_add, Nat.le_refl, reduceCtorEq, SV.tr, SV.trL, nmF, rn_nil, rn_cons1, rn_cons2, List.map_cons, List.map_nil, List.all_cons, List.all_nil, plainOb, SV.refsL, SV.refs, Ob.refs, X, F, List.range_succ, List.range_zero, List.nil_append, List.cons_append, List.isEmpty_nil, decide_true, Nat.reduceLT, Bool.and_self, Bool.and_true, and_self, and_true, List.getElem?_cons_zero, List.getElem?_cons_succ, List.nodup_cons, List.nodup_nil, List.mem_cons, List.not_mem_nil, not_false_eq_true, or_false, List.append_nil, mkO, setO_mk, List.mem_singleton]) (by simp [SV.tr, SV.trL])
  · have hb : (kyL 3 x == kyL 3 y) = false := beq_eq_false_iff_ne.2 he
    refine is.go hm hΓ k_isEqualS o_isEqualS (by simp [a_isEqualS]) ?_
    simp only [a_isEqualS, h_codeS, c_codeS, hc, he, hb, List.zipIdx_cons, List.zipIdx_nil, ↓SP, SQ, Gam.add, stepM, callC, argC, lendO, nmBy, nmC, likeL, likeB, plainOb, offs, exL, X, F, trP, trO, stepD, stepW, newA, SV.tr, SV.trL, fz, allP, Ob.tr, loadA, cellsA, SV.cells, binA, binI, eqOut, isSl, isPt, natOf, callee, snap, SV.refsL, SV.refs, thaw, fzAll, loA, hiA, elemOf, partsA, buildA, putCells, ↓reduceIte, reduceCtorEq, okCell, Nat.reduceAdd, Nat.reduceEqDiff, Nat.reduceSub, Nat.reduceMul, Nat.reduceLeDiff, Nat.reduceLT, Nat.reduceBEq, PV.scal, PV.scalL, SV.scal, SV.scalL, Ob.scal, PV.isCell, pure', resO]
    exact finA_val (by simp [he, retA, rvA, List.mapM_cons, List.mapM_nil, Option.pure_def, Option.bind_eq_bind, Option.bind_some, Option.map_some, mkE_cons, mk_nil, mkO_cons, mkO_nil, loadA, ↓reduceIte, List.take_succ_cons, List.take_zero, List.drop_zero, List.drop_succ_cons, List.length_cons, List.length_nil, Nat.reduceAdd, Nat.reduceEqDiff, Nat.reduceLeDiff, Nat.zero_add, Nat.le_refl, reduceCtorEq, SV.tr, SV.trL, nmF, rn_nil, rn_cons1, rn_cons2, List.map_cons, List.map_nil, List.all_cons, List.all_nil, plainOb, SV.refsL, SV.refs, Ob.refs, X, F, List.range_succ, List.range_zero, List.nil_append, List.cons_append, List.isEmpty_nil, decide_true, Nat.reduceLT, Bool.and_self, Bool.and_true, and_self, and_true, List.getElem?_cons_zero, List.getElem?_cons_succ, List.nodup_cons, List.nodup_nil, List.mem_cons, List.not_mem_nil, not_false_eq_true, or_false, List.append_nil, mkO, setO_mk, List.mem_singleton]) (by simp [SV.tr, SV.trL])
def a_newLesser : AFn := ⟨0, 
  .seq (.reg [⟨some 0, none, .w (.alloc [.nilmap])⟩])
  (.seq (.reg [⟨some 1, none, .w (.mkmap)⟩,
    ⟨some 2, none, .d (.build [.nilmap] [(0, 1, (.t 1))])⟩,
    ⟨none, none, .w (.store 1 (.t 0) (.t 2))⟩])
  (.ret)), [.cell 0 1 true]⟩
def n_newLesser : Nat → Option Ann := fun _ => none
abbrev k_newLesser : List Nat := [0]
abbrev o_newLesser : List Nat := [0, 1]
def c_newLesser : Con := pure' fun
  | [] => some (.ag [.mp 2000000], [.map []])
  | _ => none
theorem s_newLesser {P : Program} (hm : P.follows .mixedOrders = true) {Γ : Gam} (hΓ : GS P Γ) {n : FuncId} (is : Is P n a_newLesser)  : Says P n c_newLesser := by
  refine Says.pure fun args r fs h => ?_
  split at h
  case h_2 => cases h
  simp only [Option.some.injEq, Prod.mk.injEq] at h
  obtain ⟨rfl, rfl⟩ := h
  refine is.go hm hΓ k_newLesser o_newLesser (by simp [a_newLesser]) ?_
  simp only [a_newLesser, List.zipIdx_cons, List.zipIdx_nil, ↓SP, SQ, Gam.add, stepM, callC, argC, lendO, nmBy, nmC, likeL, likeB, plainOb, offs, exL, X, F, trP, trO, stepD, stepW, newA, SV.tr, SV.trL, fz, allP, Ob.tr, loadA, cellsA, SV.cells, binA, binI, eqOut, isSl, isPt, natOf, callee, snap, SV.refsL, SV.refs, thaw, fzAll, loA, hiA, elemOf, partsA, buildA, putCells, ↓reduceIte, reduceCtorEq, okCell, Nat.reduceAdd, Nat.reduceEqDiff, Nat.reduceSub, Nat.reduceMul, Nat.reduceLeDiff, Nat.reduceLT, Nat.reduceBEq, PV.scal, PV.scalL, SV.scal, SV.scalL, Ob.scal, PV.isCell, pure', resO]
  refine finA_gen [1] trivial (by simp [retA, rvA, List.mapM_cons, List.mapM_nil, Option.pure_def, Option.bind_eq_bind, Option.bind_some, Option.map_some, mkE_cons, mk_nil, mkO_cons, mkO_nil, loadA, ↓reduceIte, List.take_succ_cons, List.take_zero, List.drop_zero, List.drop_succ_cons, List.length_cons, List.length_nil, Nat.reduceAdd, Nat.reduceEqDiff, Nat.reduceLeDiff, Nat.zero_add, Nat.le_refl, reduceCtorEq, SV.tr, SV.trL, nmF, rn_nil, rn_cons1, rn_cons2, List.map_cons, List.map_nil, List.all_cons, List.all_nil, plainOb, SV.refsL, SV.refs, Ob.refs, X, F, List.range_succ, List.range_zero, List.nil_append, List.cons_append, List.isEmpty_nil, decide_true, Nat.reduceLT, Bool.and_self, Bool.and_true, and_self, and_true, List.getElem?_cons_zero, List.getElem?_cons_succ, List.nodup_cons, List.nodup_nil, List.mem_cons, List.not_mem_nil, not_false_eq_true, or_false, List.append_nil, mkO, setO_mk, List.mem_singleton]; rfl) ?_ ?_ ?_ ?_ ?_ ?_ ?_ <;> simp [retA, rvA, List.mapM_cons, List.mapM_nil, Option.pure_def, Option.bind_eq_bind, Option.bind_some, Option.map_some, mkE_cons, mk_nil, mkO_cons, mkO_nil, loadA, ↓reduceIte, List.take_succ_cons, List.take_zero, List.drop_zero, List.drop_succ_cons, List.length_cons, List.length_nil, Nat.reduceAdd, Nat.reduceEqDiff, Nat.reduceLeDiff, Nat.zero_add, Nat.le_refl, reduceCtorEq, SV.tr, SV.trL, nmF, rn_nil, rn_cons1, rn_cons2, List.map_cons, List.map_nil, List.all_cons, List.all_nil, plainOb, SV.refsL, SV.refs, Ob.refs, X, F, List.range_succ, List.range_zero, List.nil_append, List.cons_append, List.isEmpty_nil, decide_true, Nat.reduceLT, Bool.and_self, Bool.and_true, and_self, and_true, List.getElem?_cons_zero, List.getElem?_cons_succ, List.nodup_cons, List.nodup_nil, List.mem_cons, List.not_mem_nil, not_false_eq_true, or_false, List.append_nil, mkO, setO_mk, List.mem_singleton]
def a_l6Key : AFn := ⟨1, 
  .seq (.reg [⟨some 1, none, .w (.box 2 (.t 0))⟩,
    ⟨some 2, none, .d (.mv (.c (.int .i64 0)))⟩])
  (.seq (.reg [⟨some 3, none, .d (.mv (.c (.int .i64 0)))⟩])
  (.seq (.seq (.reg [⟨some 4, none, .d (.mv (.c (.int .i64 0)))⟩])
  (.block 0 (.loop (.seq (.seq (.reg [⟨some 5, none, .d (.mv (.t 4))⟩,
      ⟨some 6, none, .d (.fa 0 (.t 1))⟩,
      ⟨some 7, none, .d (.load false 1 (.t 6))⟩,
      ⟨some 8, none, .d (.len (.t 7))⟩,
      ⟨some 9, none, .d (.bin .arith .lss (.t 5) (.t 8))⟩])
    (.cond (.t 9) (.skip) (.exit 0)))
    (.seq (.block 1 (.dreg [] [([], ⟨some 12, none, .d (.mv (.t 3))⟩),
       ([], ⟨some 13, none, .d (.fa 1 (.t 1))⟩),
       ([], ⟨some 14, none, .d (.load false 1 (.t 13))⟩),
       ([], ⟨some 15, none, .d (.bin .arith .add (.t 14) (.c (.int .i64 2)))⟩),
       ([], ⟨some 16, none, .d (.bin .arith .mul (.t 12) (.t 15))⟩),
       ([], ⟨some 17, none, .d (.fa 0 (.t 1))⟩),
       ([], ⟨some 18, none, .d (.load false 1 (.t 17))⟩),
       ([], ⟨some 19, none, .d (.mv (.t 4))⟩),
       ([], ⟨some 20, none, .d (.ia 1 (.t 18) (.t 19))⟩),
       ([], ⟨some 21, none, .d (.load false 1 (.t 20))⟩)] [⟨some 22, none, .d (.bin .arith .add (.t 16) (.t 21))⟩,
       ⟨some 23, none, .d (.bin .arith .add (.t 22) (.c (.int .i64 1)))⟩,
       ⟨some 3, none, .d (.mv (.t 23))⟩]))
    (.reg [⟨some 10, none, .d (.mv (.t 4))⟩,
      ⟨some 11, none, .d (.bin .arith .add (.t 10) (.c (.int .i64 1)))⟩,
      ⟨some 4, none, .d (.mv (.t 11))⟩]))))))
  (.seq (.reg [⟨some 24, none, .d (.mv (.t 3))⟩,
    ⟨some 2, none, .d (.mv (.t 24))⟩])
  (.ret)))), [.tmp 2]⟩
def n_l6Key : Nat → Option Ann := fun _ => none
abbrev k_l6Key : List Nat := [0, 1, 2, 3, 4, 9]
abbrev o_l6Key : List Nat := [1]
def c_l6Key : Con := pure' fun
  | [.p (.agg [.sl 1 x_, .int .i64 m])] => if isI x_ = true ∧ (isSh (ofI x_) m = true) then some (.p (.int .i64 (kyL (m + 2) (ofI x_))), []) else none
  | _ => none
theorem s_l6Key {P : Program} (hm : P.follows .mixedOrders = true) {Γ : Gam} (hΓ : GS P Γ) {n : FuncId} (is : Is P n a_l6Key)  : Says P n c_l6Key := by
  refine Says.pure fun args r fs h => ?_
  split at h
  case h_2 => cases h
  rename_i x_ m
  split at h
  case isFalse => cases h
  rename_i hc
  obtain ⟨hx_, hc⟩ := hc
  obtain ⟨x, rfl⟩ := isI_out hx_
  simp only [ofI_ints, ofBo_bools, ofAs_asks, Option.some.injEq, Prod.mk.injEq] at h hc
  obtain ⟨rfl, rfl⟩ := h
  have hin := (sh_in hc).1
  obtain ⟨hl1, hl5, hmm, hv⟩ := sh_out hc
  obtain ⟨b, hb⟩ : ∃ b : Nat, m + 2 = b := ⟨(m + 2).toNat, by omega⟩
  have hin : inB b x = true := by rw [hb] at hin; exact hin
  have hwb : IntKind.i64.wrap (m + 2) = (b : Int) := by rw [← hb]; exact wrap64 (by omega) (by omega)
  have hb3 : (b : Int) ≤ 3 := by omega
  rw [hb]
  refine is.go hm hΓ k_l6Key o_l6Key (by simp [a_l6Key]) ?_
  simp only [a_l6Key, List.zipIdx_cons, List.zipIdx_nil, ↓SP, SQ, Gam.add, stepM, callC, argC, lendO, nmBy, nmC, likeL, likeB, plainOb, offs, exL, X, F, trP, trO, stepD, stepW, newA, SV.tr, SV.trL, fz, allP, Ob.tr, loadA, cellsA, SV.cells, binA, binI, eqOut, isSl, isPt, natOf, callee, snap, SV.refsL, SV.refs, thaw, fzAll, loA, hiA, elemOf, partsA, buildA, putCells, ↓reduceIte, reduceCtorEq, okCell, Nat.reduceAdd, Nat.reduceEqDiff, Nat.reduceSub, Nat.reduceMul, Nat.reduceLeDiff, Nat.reduceLT, Nat.reduceBEq, PV.scal, PV.scalL, SV.scal, SV.scalL, Ob.scal, PV.isCell, pure', resO]
  refine loop_at (fun s : Nat × SV => mkEnv [(0, .p (.agg [.sl 1 (ints x), .int .i64 m])), (1, .bx 1 0), (2, si 0), (3, si (kyI b x s.1)), (4, si s.1), (9, s.2)]) (fun _ => mkO [(1, some (.box [.p (.sl 1 (ints x)), si m]))]) (fun s => s.1 ≤ x.length) (fun s => x.length - s.1) (0, .junk) (by simp) rfl rfl ?_
  rintro ⟨i, c1⟩ hi R hR hN
  simp only at hi
  by_cases h : i < x.length
  · have h1 : (i : Int) < x.length := by omega
    have hw := wrap_one (i := i) (by omega)
    have hg := ints_get h
    obtain ⟨b0, b1⟩ := ky_small (b := b) (by omega) hin hl5 (i := i) hi
    obtain ⟨v0, v1⟩ := inB_get hin h
    have bm : 0 ≤ kyI b x i * b ∧ kyI b x i * b ≤ 243 * 3 := ⟨Int.mul_nonneg b0 (by omega), Int.mul_le_mul b1 hb3 (by omega) (by omega)⟩
    have w1 : IntKind.i64.wrap (kyI b x i * b) = kyI b x i * b := wrap64 (by omega) (by omega)
    have w2 : IntKind.i64.wrap (kyI b x i * b + x.getD i 0) = kyI b x i * b + x.getD i 0 := wrap64 (by omega) (by omega)
    have w3 : IntKind.i64.wrap (kyI b x i * b + x.getD i 0 + 1) = kyI b x (i + 1) := by rw [wrap64 (by omega) (by omega)]; rfl
    simp only [h1, hw, hg, hwb, w1, w2, w3, ints_len, ↓SP, SQ, Gam.add, stepM, callC, argC, lendO, nmBy, nmC, likeL, likeB, plainOb, offs, exL, X, F, trP, trO, stepD, stepW, newA, SV.tr, SV.trL, fz, allP, Ob.tr, loadA, cellsA, SV.cells, binA, binI, eqOut, isSl, isPt, natOf, callee, snap, SV.refsL, SV.refs, thaw, fzAll, loA, hiA, elemOf, partsA, buildA, putCells, ↓reduceIte, reduceCtorEq, okCell, Nat.reduceAdd, Nat.reduceEqDiff, Nat.reduceSub, Nat.reduceMul, Nat.reduceLeDiff, Nat.reduceLT, Nat.reduceBEq, PV.scal, PV.scalL, SV.scal, SV.scalL, Ob.scal, PV.isCell, pure', resO]
    exact hN (i + 1, _) _ _ (by simp only; omega) (by simp only; omega) rfl rfl
  · have he : i = x.length := by omega
    have h1 : ¬ (i : Int) < x.length := by omega
    simp only [h1, ints_len, ↓SP, SQ, Gam.add, stepM, callC, argC, lendO, nmBy, nmC, likeL, likeB, plainOb, offs, exL, X, F, trP, trO, stepD, stepW, newA, SV.tr, SV.trL, fz, allP, Ob.tr, loadA, cellsA, SV.cells, binA, binI, eqOut, isSl, isPt, natOf, callee, snap, SV.refsL, SV.refs, thaw, fzAll, loA, hiA, elemOf, partsA, buildA, putCells, ↓reduceIte, reduceCtorEq, okCell, Nat.reduceAdd, Nat.reduceEqDiff, Nat.reduceSub, Nat.reduceMul, Nat.reduceLeDiff, Nat.reduceLT, Nat.reduceBEq, PV.scal, PV.scalL, SV.scal, SV.scalL, Ob.scal, PV.isCell, pure', resO]
    refine hR _ _ _ (by intro h; cases h) ?_
    simp only [↓SP, SQ, Gam.add, stepM, callC, argC, lendO, nmBy, nmC, likeL, likeB, plainOb, offs, exL, X, F, trP, trO, stepD, stepW, newA, SV.tr, SV.trL, fz, allP, Ob.tr, loadA, cellsA, SV.cells, binA, binI, eqOut, isSl, isPt, natOf, callee, snap, SV.refsL, SV.refs, thaw, fzAll, loA, hiA, elemOf, partsA, buildA, putCells, ↓reduceIte, reduceCtorEq, okCell, Nat.reduceAdd, Nat.reduceEqDiff, Nat.reduceSub, Nat.reduceMul, Nat.reduceLeDiff, Nat.reduceLT, Nat.reduceBEq, PV.scal, PV.scalL, SV.scal, SV.scalL, Ob.scal, PV.isCell, pure', resO]
    subst he
    exact finA_val (by simp [kyL, retA, rvA, List.mapM_cons, List.mapM_nil, Option.pure_def, Option.bind_eq_bind, Option.bind_some, Option.map_some, mkE_cons, mk_nil, mkO_cons, mkO_nil, loadA, ↓reduceIte, List.take_succ_cons, List.take_zero, List.drop_zero, List.drop_succ_cons, List.length_cons, List.length_nil, Nat.reduceAdd, Nat.reduceEqDiff, Nat.reduceLeDiff, Nat.zero_add, Nat.le_refl, reduceCtorEq, SV.tr, SV.trL, nmF, rn_nil, rn_cons1, rn_cons2, List.map_cons, List.map_nil, List.all_cons, List.all_nil, plainOb, SV.refsL, SV.refs, Ob.refs, X, F, List.range_succ, List.range_zero, List.nil_append, List.cons_append, List.isEmpty_nil, decide_true, Nat.reduceLT, Bool.and_self, Bool.and_true, and_self, and_true, List.getElem?_cons_zero, List.getElem?_cons_succ, List.nodup_cons, List.nodup_nil, List.mem_cons, List.not_mem_nil, not_false_eq_true, or_false, List.append_nil, mkO, setO_mk, List.mem_singleton]) (by simp [SV.tr, SV.trL])
theorem tmodN (a b : Nat) : ((a : Nat) : Int).tmod (b : Int) = ((a % b : Nat) : Int) := rfl
theorem tdivN (a b : Nat) : ((a : Nat) : Int).tdiv (b : Int) = ((a / b : Nat) : Int) := rfl
theorem rep_set {i : Nat} {v : Int} {suf : List Int} : (List.replicate (i + 1) (0 : Int) ++ suf).set i v = List.replicate i 0 ++ v :: suf := by
  have : List.replicate (i + 1) (0 : Int) = List.replicate i 0 ++ [0] := List.replicate_succ'
  rw [this, List.append_assoc, List.set_append_right _ _ (by simp)]
  simp
def a_l6Of (f_start : FuncId) : AFn := ⟨3, 
  .seq (.reg [⟨some 6, none, .w (.alloc [.nilsl, .int .i64 0])⟩])
  (.seq (.reg [⟨some 9, none, .d (.mv (.t 1))⟩,
    ⟨some 10, none, .d (.mv (.t 2))⟩,
    ⟨some 11, none, .w (.callL (.f f_start) [(.t 9), (.t 10)] [] 1 false)⟩,
    ⟨some 7, none, .w (.alloc [.nilsl, .int .i64 0])⟩,
    ⟨none, none, .w (.store 2 (.t 7) (.t 11))⟩])
  (.seq (.seq (.reg [⟨some 12, none, .d (.mv (.t 1))⟩,
    ⟨some 13, none, .d (.bin .arith .sub (.t 12) (.c (.int .i64 1)))⟩,
    ⟨some 8, none, .d (.mv (.t 13))⟩])
  (.block 0 (.loop (.seq (.seq (.reg [⟨some 14, none, .d (.mv (.t 8))⟩,
      ⟨some 15, none, .d (.bin .arith .geq (.t 14) (.c (.int .i64 0)))⟩])
    (.cond (.t 15) (.skip) (.exit 0)))
    (.seq (.block 1 (.seq (.dreg [] [([], ⟨some 18, none, .d (.fa 0 (.t 7))⟩),
       ([], ⟨some 19, none, .d (.load false 1 (.t 18))⟩),
       ([], ⟨some 20, none, .d (.mv (.t 8))⟩),
       ([], ⟨some 21, none, .d (.mv (.t 0))⟩),
       ([], ⟨some 22, none, .d (.mv (.t 2))⟩),
       ([], ⟨some 23, none, .d (.bin .arith .add (.t 22) (.c (.int .i64 2)))⟩),
       ([], ⟨some 24, none, .d (.bin .arith .rem (.t 21) (.t 23))⟩),
       ([], ⟨some 25, none, .d (.bin .arith .sub (.t 24) (.c (.int .i64 1)))⟩)] [⟨some 26, none, .d (.ia 1 (.t 19) (.t 20))⟩,
       ⟨none, none, .w (.store 1 (.t 26) (.t 25))⟩])
     (.reg [⟨some 27, none, .d (.mv (.t 0))⟩,
       ⟨some 28, none, .d (.mv (.t 2))⟩,
       ⟨some 29, none, .d (.bin .arith .add (.t 28) (.c (.int .i64 2)))⟩,
       ⟨some 30, none, .d (.bin .arith .quo (.t 27) (.t 29))⟩,
       ⟨some 0, none, .d (.mv (.t 30))⟩])))
    (.reg [⟨some 16, none, .d (.mv (.t 8))⟩,
      ⟨some 17, none, .d (.bin .arith .sub (.t 16) (.c (.int .i64 1)))⟩,
      ⟨some 8, none, .d (.mv (.t 17))⟩]))))))
  (.seq (.reg [⟨some 31, none, .d (.load true 2 (.t 7))⟩,
    ⟨none, none, .w (.store 2 (.t 6) (.t 31))⟩])
  (.ret)))), [.cell 6 2 true]⟩
def n_l6Of : Nat → Option Ann := fun d => if d = 11 then some ⟨[], 1, false⟩ else none
abbrev k_l6Of : List Nat := [0, 1, 2, 6, 7, 8, 15]
abbrev o_l6Of : List Nat := [6, 7, 11]
def c_l6Of : Con := pure' fun
  | [.p (.int .i64 key), .p (.int .i64 n), .p (.int .i64 m)] => if (0 ≤ key ∧ key ≤ 1000000 ∧ 1 ≤ n ∧ n ≤ 5 ∧ 0 ≤ m ∧ m ≤ 1) then some (.ag [.ar 2000000, .p (.int .i64 m)], [.arr 1 (ints (dgB (m + 2).toNat n.toNat key.toNat))]) else none
  | _ => none
theorem s_l6Of {P : Program} (hm : P.follows .mixedOrders = true) {Γ : Gam} (hΓ : GS P Γ) {n : FuncId} {f_start : FuncId} (is : Is P n (a_l6Of f_start)) (h_start : Γ f_start = c_start)  : Says P n c_l6Of := by
  refine Says.pure fun args r fs h => ?_
  split at h
  case h_2 => cases h
  rename_i key n m
  split at h
  case isFalse => cases h
  rename_i hc
  simp only [ofI_ints, ofBo_bools, ofAs_asks, Option.some.injEq, Prod.mk.injEq] at h hc
  obtain ⟨rfl, rfl⟩ := h
  obtain ⟨hk0, hk1, hn1, hn5, hm0, hm1⟩ := hc
  obtain ⟨key, rfl⟩ : ∃ j : Nat, key = j := ⟨key.toNat, by omega⟩
  obtain ⟨n, rfl⟩ : ∃ j : Nat, n = j := ⟨n.toNat, by omega⟩
  obtain ⟨b, hb⟩ : ∃ b : Nat, m + 2 = b := ⟨(m + 2).toNat, by omega⟩
  have hwb : IntKind.i64.wrap (m + 2) = (b : Int) := by rw [← hb]; exact wrap64 (by omega) (by omega)
  have hbz : ¬ (b : Int) = 0 := by omega
  rw [hb]
  simp only [Int.toNat_natCast]
  have hn00 : (0 : Int) ≤ (n : Int) := by omega
  have hnb : (n : Int) ≤ 1100000 := by omega
  have hw0 : IntKind.i64.wrap ((n : Int) - 1) = (n : Int) - 1 := wrap64 (by omega) (by omega)
  refine is.go hm hΓ k_l6Of o_l6Of (by simp [a_l6Of]) ?_
  simp only [a_l6Of, h_start, c_start, hn00, hnb, hw0, Int.toNat_natCast, List.zipIdx_cons, List.zipIdx_nil, ↓SP, SQ, Gam.add, stepM, callC, argC, lendO, nmBy, nmC, likeL, likeB, plainOb, offs, exL, X, F, trP, trO, stepD, stepW, newA, SV.tr, SV.trL, fz, allP, Ob.tr, loadA, cellsA, SV.cells, binA, binI, eqOut, isSl, isPt, natOf, callee, snap, SV.refsL, SV.refs, thaw, fzAll, loA, hiA, elemOf, partsA, buildA, putCells, ↓reduceIte, reduceCtorEq, okCell, Nat.reduceAdd, Nat.reduceEqDiff, Nat.reduceSub, Nat.reduceMul, Nat.reduceLeDiff, Nat.reduceLT, Nat.reduceBEq, PV.scal, PV.scalL, SV.scal, SV.scalL, Ob.scal, PV.isCell, pure', resO]
  refine loop_at (fun s : Nat × Nat × List Int × SV => mkEnv [(0, si s.2.1), (1, si n), (2, si m), (6, .bx 6 0), (7, .bx 7 0), (8, si ((s.1 : Int) - 1)), (15, s.2.2.2)]) (fun s => mkO [(6, some (.box [.p .nilsl, si 0])), (7, some (.box [.ar 11, si m])), (11, some (.arr 1 (ints (List.replicate s.1 0 ++ s.2.2.1))))]) (fun s => s.1 ≤ n ∧ s.2.1 ≤ 1000000 ∧ s.2.2.1.length = n - s.1 ∧ dgB b s.1 s.2.1 ++ s.2.2.1 = dgB b n key) (fun s => s.1) (n, key, [], .junk) (by simp; omega) rfl (by simp only [List.append_nil]) ?_
  rintro ⟨i, q, suf, c1⟩ ⟨hi, hq, hsl, hd⟩ R hR hN
  simp only at hi hq hsl hd
  cases i with
  | succ i =>
    have e1 : ((i + 1 : Nat) : Int) - 1 = (i : Int) := by omega
    have hw : IntKind.i64.wrap ((i : Int) - 1) = (i : Int) - 1 := wrap64 (by omega) (by omega)
    have h1 : (i : Int) ≥ 0 := by omega
    have h1' : (0 : Int) ≤ (i : Int) := h1
    have hlt := Nat.mod_lt q (show 0 < b by omega)
    have hdv := Nat.div_le_self q b
    have hw1 : IntKind.i64.wrap (((q % b : Nat) : Int) - 1) = ((q % b : Nat) : Int) - 1 := wrap64 (by omega) (by omega)
    have hw2 : IntKind.i64.wrap ((q % b : Nat) : Int) = ((q % b : Nat) : Int) := wrap64 (by omega) (by omega)
    have hw3 : IntKind.i64.wrap ((q / b : Nat) : Int) = ((q / b : Nat) : Int) := by
      generalize q / b = z at hdv ⊢
      exact wrap64 (by omega) (by omega)
    have hdq : q / b ≤ 1000000 := Nat.le_trans hdv hq
    have hlen : (List.replicate (i + 1) (0 : Int) ++ suf).length = n := by simp [hsl]; omega
    have hin : i < n := by omega
    have hset := rep_set (i := i) (v := ((q % b : Nat) : Int) - 1) (suf := suf)
    obtain ⟨e, he⟩ : ∃ e, (ints (List.replicate (i + 1) (0 : Int) ++ suf))[i]? = some e := ⟨_, List.getElem?_eq_getElem (by rw [ints_len, hlen]; exact hin)⟩
    simp only [e1, h1, h1', hw, hwb, hbz, hw1, hw2, hw3, hlen, hin, he, hset, tmodN, tdivN, ints_len, ints_set, Int.toNat_natCast, ↓SP, SQ, Gam.add, stepM, callC, argC, lendO, nmBy, nmC, likeL, likeB, plainOb, offs, exL, X, F, trP, trO, stepD, stepW, newA, SV.tr, SV.trL, fz, allP, Ob.tr, loadA, cellsA, SV.cells, binA, binI, eqOut, isSl, isPt, natOf, callee, snap, SV.refsL, SV.refs, thaw, fzAll, loA, hiA, elemOf, partsA, buildA, putCells, ↓reduceIte, reduceCtorEq, okCell, Nat.reduceAdd, Nat.reduceEqDiff, Nat.reduceSub, Nat.reduceMul, Nat.reduceLeDiff, Nat.reduceLT, Nat.reduceBEq, PV.scal, PV.scalL, SV.scal, SV.scalL, Ob.scal, PV.isCell, pure', resO]
    exact hN (i, q / b, _ :: suf, _) _ _ (by simp only; refine ⟨by omega, hdq, by simp [hsl]; omega, ?_⟩; rw [← hd, dgB]; simp) (by simp only; omega) rfl rfl
  | zero =>
    have e1 : ((0 : Nat) : Int) - 1 = -1 := by omega
    have h1 : ¬ (-1 : Int) ≥ 0 := by omega
    have hfe : suf = dgB b n key := by rw [← hd]; simp [dgB]
    simp only [e1, h1, ↓SP, SQ, Gam.add, stepM, callC, argC, lendO, nmBy, nmC, likeL, likeB, plainOb, offs, exL, X, F, trP, trO, stepD, stepW, newA, SV.tr, SV.trL, fz, allP, Ob.tr, loadA, cellsA, SV.cells, binA, binI, eqOut, isSl, isPt, natOf, callee, snap, SV.refsL, SV.refs, thaw, fzAll, loA, hiA, elemOf, partsA, buildA, putCells, ↓reduceIte, reduceCtorEq, okCell, Nat.reduceAdd, Nat.reduceEqDiff, Nat.reduceSub, Nat.reduceMul, Nat.reduceLeDiff, Nat.reduceLT, Nat.reduceBEq, PV.scal, PV.scalL, SV.scal, SV.scalL, Ob.scal, PV.isCell, pure', resO]
    refine hR _ _ _ (by intro h; cases h) ?_
    simp only [↓SP, SQ, Gam.add, stepM, callC, argC, lendO, nmBy, nmC, likeL, likeB, plainOb, offs, exL, X, F, trP, trO, stepD, stepW, newA, SV.tr, SV.trL, fz, allP, Ob.tr, loadA, cellsA, SV.cells, binA, binI, eqOut, isSl, isPt, natOf, callee, snap, SV.refsL, SV.refs, thaw, fzAll, loA, hiA, elemOf, partsA, buildA, putCells, ↓reduceIte, reduceCtorEq, okCell, Nat.reduceAdd, Nat.reduceEqDiff, Nat.reduceSub, Nat.reduceMul, Nat.reduceLeDiff, Nat.reduceLT, Nat.reduceBEq, PV.scal, PV.scalL, SV.scal, SV.scalL, Ob.scal, PV.isCell, pure', resO]
    refine finA_gen [11] trivial (by simp [retA, rvA, List.mapM_cons, List.mapM_nil, Option.pure_def, Option.bind_eq_bind, Option.bind_some, Option.map_some, mkE_cons, mk_nil, mkO_cons, mkO_nil, loadA, ↓reduceIte, List.take_succ_cons, List.take_zero, List.drop_zero, List.drop_succ_cons, List.length_cons, List.length_nil, Nat.reduceAdd, Nat.reduceEqDiff, Nat.reduceLeDiff, Nat.zero_add, Nat.le_refl, reduceCtorEq, SV.tr, SV.trL, nmF, rn_nil, rn_cons1, rn_cons2, List.map_cons, List.map_nil, List.all_cons, List.all_nil, plainOb, SV.refsL, SV.refs, Ob.refs, X, F, List.range_succ, List.range_zero, List.nil_append, List.cons_append, List.isEmpty_nil, decide_true, Nat.reduceLT, Bool.and_self, Bool.and_true, and_self, and_true, List.getElem?_cons_zero, List.getElem?_cons_succ, List.nodup_cons, List.nodup_nil, List.mem_cons, List.not_mem_nil, not_false_eq_true, or_false, List.append_nil, mkO, setO_mk, List.mem_singleton]; rfl) ?_ ?_ ?_ ?_ ?_ ?_ ?_ <;> simp [hfe, retA, rvA, List.mapM_cons, List.mapM_nil, Option.pure_def, Option.bind_eq_bind, Option.bind_some, Option.map_some, mkE_cons, mk_nil, mkO_cons, mkO_nil, loadA, ↓reduceIte, List.take_succ_cons, List.take_zero, List.drop_zero, List.drop_succ_cons, List.length_cons, List.length_nil, Nat.reduceAdd, Nat.reduceEqDiff, Nat.reduceLeDiff, Nat.zero_add, Nat.le_refl, reduceCtorEq, SV.tr, SV.trL, nmF, rn_nil, rn_cons1, rn_cons2, List.map_cons, List.map_nil, List.all_cons, List.all_nil, plainOb, SV.refsL, SV.refs, Ob.refs, X, F, List.range_succ, List.range_zero, List.nil_append, List.cons_append, List.isEmpty_nil, decide_true, Nat.reduceLT, Bool.and_self, Bool.and_true, and_self, and_true, List.getElem?_cons_zero, List.getElem?_cons_succ, List.nodup_cons, List.nodup_nil, List.mem_cons, List.not_mem_nil, not_false_eq_true, or_false, List.append_nil, mkO, setO_mk, List.mem_singleton]
def a_l6After (f_l2After : FuncId) : AFn := ⟨3, 
  .seq (.reg [⟨some 3, none, .w (.box 2 (.t 0))⟩,
    ⟨some 6, none, .w (.alloc [.nilsl, .int .i64 0])⟩])
  (.seq (.dreg [] [([], ⟨some 7, none, .d (.load true 2 (.t 3))⟩),
    ([], ⟨some 8, none, .d (.mv (.t 1))⟩),
    ([], ⟨some 9, none, .d (.bin .arith .shl (.c (.int .i64 1)) (.t 8))⟩),
    ([], ⟨some 10, none, .d (.bin .arith .sub (.t 9) (.c (.int .i64 1)))⟩),
    ([], ⟨some 11, none, .d (.mv (.t 2))⟩)] [⟨some 12, none, .d (.call (.f f_l2After) [(.t 7), (.t 10), (.t 11)])⟩,
    ⟨none, none, .w (.store 2 (.t 6) (.t 12))⟩])
  (.ret)), [.cell 6 2 true]⟩
def n_l6After : Nat → Option Ann := fun _ => none
abbrev k_l6After : List Nat := [0, 1, 2, 3, 6]
abbrev o_l6After : List Nat := [3, 6]
def c_l6After : Con := pure' fun
  | [.p (.agg [.sl 1 x_, .int .i64 m]), .p (.int .i64 k), .p (.bool y)] => if isI x_ = true ∧ (isSh (ofI x_) m = true ∧ 0 ≤ k ∧ k ≤ 5) then some (.ag [.p (.sl 1 (ints (aftL m k.toNat y (ofI x_)))), .p (.int .i64 m)], []) else none
  | _ => none
theorem s_l6After {P : Program} (hm : P.follows .mixedOrders = true) {Γ : Gam} (hΓ : GS P Γ) {n : FuncId} {f_l2After : FuncId} (is : Is P n (a_l6After f_l2After)) (h_l2After : Γ f_l2After = c_l2After)  : Says P n c_l6After := by
  refine Says.pure fun args r fs h => ?_
  split at h
  case h_2 => cases h
  rename_i x_ m k y
  split at h
  case isFalse => cases h
  rename_i hc
  obtain ⟨hx_, hc⟩ := hc
  obtain ⟨x, rfl⟩ := isI_out hx_
  simp only [ofI_ints, ofBo_bools, ofAs_asks, Option.some.injEq, Prod.mk.injEq] at h hc
  obtain ⟨rfl, rfl⟩ := h
  obtain ⟨hs, h0, h1⟩ := hc
  obtain ⟨k, rfl⟩ : ∃ j : Nat, k = j := ⟨k.toNat, by omega⟩
  obtain ⟨s1, s2⟩ := shl5 (k := k) (by omega)
  have hn : ¬ (k : Int) < 0 := by omega
  have hsm := sh_1000 hs
  have hll := sh_len hs
  have hal := aft_ls (k := k) (by omega) (m := m) (y := y) (sh_out hs).2.1
  simp only [Int.toNat_natCast]
  refine is.go hm hΓ k_l6After o_l6After (by simp [a_l6After]) ?_
  simp only [a_l6After, h_l2After, c_l2After, s1, s2, hn, hsm, hll, hal, Int.toNat_natCast, List.zipIdx_cons, List.zipIdx_nil, ↓SP, SQ, Gam.add, stepM, callC, argC, lendO, nmBy, nmC, likeL, likeB, plainOb, offs, exL, X, F, trP, trO, stepD, stepW, newA, SV.tr, SV.trL, fz, allP, Ob.tr, loadA, cellsA, SV.cells, binA, binI, eqOut, isSl, isPt, natOf, callee, snap, SV.refsL, SV.refs, thaw, fzAll, loA, hiA, elemOf, partsA, buildA, putCells, ↓reduceIte, reduceCtorEq, okCell, Nat.reduceAdd, Nat.reduceEqDiff, Nat.reduceSub, Nat.reduceMul, Nat.reduceLeDiff, Nat.reduceLT, Nat.reduceBEq, PV.scal, PV.scalL, SV.scal, SV.scalL, Ob.scal, PV.isCell, pure', resO]
  exact finA_val (by simp [retA, rvA, List.mapM_cons, List.mapM_nil, Option.pure_def, Option.bind_eq_bind, Option.bind_some, Option.map_some, mkE_cons, mk_nil, mkO_cons, mkO_nil, loadA, ↓reduceIte, List.take_succ_cons, List.take_zero, List.drop_zero, List.drop_succ_cons, List.length_cons, List.length_nil, Nat.reduceAdd, Nat.reduceEqDiff, Nat.reduceLeDiff, Nat.zero_add, Nat.le_refl, reduceCtorEq, SV.tr, SV.trL, nmF, rn_nil, rn_cons1, rn_cons2, List.map_cons, List.map_nil, List.all_cons, List.all_nil, plainOb, SV.refsL, SV.refs, Ob.refs, X, F, List.range_succ, List.range_zero, List.nil_append, List.cons_append, List.isEmpty_nil, decide_true, Nat.reduceLT, Bool.and_self, Bool.and_true, and_self, and_true, List.getElem?_cons_zero, List.getElem?_cons_succ, List.nodup_cons, List.nodup_nil, List.mem_cons, List.not_mem_nil, not_false_eq_true, or_false, List.append_nil, mkO, setO_mk, List.mem_singleton]) (by simp [SV.tr, SV.trL])
def a_lof (f_less : FuncId) (f_bothA : FuncId) (f_isEqualS : FuncId) (f_lneed : FuncId) : AFn := ⟨3, 
  .seq (.reg [⟨some 3, none, .w (.box 1 (.t 0))⟩,
    ⟨some 4, none, .w (.box 2 (.t 1))⟩,
    ⟨some 6, none, .d (.mv (.c (.int .i64 0)))⟩,
    ⟨some 7, none, .d (.mv (.c (.bool false)))⟩])
  (.seq (.dreg [8] [([8], ⟨some 9, none, .d (.load true 2 (.t 4))⟩),
    ([8], ⟨some 10, none, .d (.mv (.t 2))⟩),
    ([8], ⟨some 11, none, .d (.call (.f f_less) [(.t 10)])⟩),
    ([8], ⟨some 12, none, .d (.call (.f f_bothA) [(.t 9), (.t 11)])⟩),
    ([], ⟨some 8, none, .w (.alloc [.nilsl, .int .i64 0, .nilsl, .int .i64 0])⟩)] [⟨none, none, .w (.store 4 (.t 8) (.t 12))⟩])
  (.seq (.seq (.reg [⟨some 13, none, .d (.iaA 2 2 (.t 8) (.c (.int .i64 0)))⟩,
    ⟨some 14, none, .d (.load true 2 (.t 13))⟩,
    ⟨some 15, none, .d (.load true 2 (.t 4))⟩,
    ⟨some 16, none, .d (.call (.f f_isEqualS) [(.t 14), (.t 15)])⟩,
    ⟨some 17, none, .d (.mv (.t 16))⟩,
    ⟨some 18, some (17, false), .d (.iaA 2 2 (.t 8) (.c (.int .i64 1)))⟩,
    ⟨some 19, some (17, false), .d (.load true 2 (.t 18))⟩,
    ⟨some 20, some (17, false), .d (.load true 2 (.t 4))⟩,
    ⟨some 21, some (17, false), .d (.call (.f f_isEqualS) [(.t 19), (.t 20)])⟩,
    ⟨some 22, none, .d (.pick (.t 17) (.c (.bool true)) (.t 21))⟩])
  (.cond (.t 22) (.seq (.reg [⟨some 6, none, .d (.mv (.c (.int .i64 0)))⟩,
     ⟨some 7, none, .d (.mv (.c (.bool false)))⟩])
   (.ret)) (.skip)))
  (.seq (.dreg [] [([], ⟨some 23, none, .d (.load true 1 (.t 3))⟩),
    ([], ⟨some 24, none, .d (.iaA 2 2 (.t 8) (.c (.int .i64 0)))⟩),
    ([], ⟨some 25, none, .d (.load true 2 (.t 24))⟩),
    ([], ⟨some 26, none, .w (.callL (.f f_lneed) [(.t 23), (.t 25)] [1000000] 0 false)⟩),
    ([1000000], ⟨some 27, none, .d (.load true 1 (.t 3))⟩),
    ([1000000], ⟨some 28, none, .d (.iaA 2 2 (.t 8) (.c (.int .i64 1)))⟩),
    ([1000000], ⟨some 29, none, .d (.load true 2 (.t 28))⟩)] [⟨some 30, none, .w (.callL (.f f_lneed) [(.t 27), (.t 29)] [1000000] 0 false)⟩,
    ⟨some 31, none, .d (.max2 (.t 26) (.t 30))⟩,
    ⟨some 32, none, .d (.bin .arith .add (.c (.int .i64 1)) (.t 31))⟩,
    ⟨some 6, none, .d (.mv (.t 32))⟩,
    ⟨some 7, none, .d (.mv (.c (.bool true)))⟩])
  (.ret)))), [.tmp 6, .tmp 7]⟩
def n_lof : Nat → Option Ann := fun d => if d = 26 then some ⟨[1000000], 0, false⟩ else if d = 30 then some ⟨[1000000], 0, false⟩ else none
abbrev k_lof : List Nat := [0, 1, 2, 3, 4, 6, 7, 8, 22]
abbrev o_lof : List Nat := [3, 4, 8]
def a_lneed (f_opened : FuncId) (f_codeS : FuncId) (f_lof : FuncId) : AFn := ⟨2, 
  .seq (.reg [⟨some 2, none, .w (.box 1 (.t 0))⟩,
    ⟨some 3, none, .w (.box 2 (.t 1))⟩,
    ⟨some 4, none, .d (.mv (.c (.int .i64 0)))⟩])
  (.seq (.seq (.reg [⟨some 11, none, .d (.load true 2 (.t 3))⟩,
    ⟨some 12, none, .d (.call (.f f_opened) [(.t 11)])⟩,
    ⟨some 13, none, .d (.len (.t 12))⟩,
    ⟨some 14, none, .d (.bin .arith .leq (.t 13) (.c (.int .i64 1)))⟩])
  (.cond (.t 14) (.seq (.reg [⟨some 4, none, .d (.mv (.c (.int .i64 0)))⟩])
   (.ret)) (.skip)))
  (.seq (.seq (.dreg [] [([], ⟨some 16, none, .d (.fa 0 (.t 2))⟩),
    ([], ⟨some 17, none, .d (.load false 1 (.t 16))⟩),
    ([], ⟨some 18, none, .d (.load true 2 (.t 3))⟩),
    ([], ⟨some 19, none, .d (.call (.f f_codeS) [(.t 18)])⟩),
    ([], ⟨some 20, none, .d (.lookup (.int .i64 0) true none (.t 17) (.t 19))⟩),
    ([], ⟨some 15, none, .d (.mv (.t 20))⟩),
    ([], ⟨some 21, none, .d (.extract (.t 15) 0)⟩),
    ([], ⟨some 22, none, .d (.extract (.t 15) 1)⟩),
    ([], ⟨some 5, none, .d (.mv (.t 21))⟩)] [⟨some 6, none, .d (.mv (.t 22))⟩])
  (.seq (.reg [⟨some 23, none, .d (.mv (.t 6))⟩])
  (.cond (.t 23) (.seq (.reg [⟨some 24, none, .d (.mv (.t 5))⟩,
     ⟨some 4, none, .d (.mv (.t 24))⟩])
   (.ret)) (.skip))))
  (.seq (.reg [⟨some 7, none, .d (.mv (.c (.int .i64 (-1))))⟩])
  (.seq (.seq (.reg [⟨some 8, none, .d (.mv (.c (.int .i64 1)))⟩])
  (.block 0 (.loop (.seq (.seq (.reg [⟨some 25, none, .d (.mv (.t 8))⟩,
      ⟨some 26, none, .d (.fa 0 (.t 3))⟩,
      ⟨some 27, none, .d (.load false 1 (.t 26))⟩,
      ⟨some 28, none, .d (.len (.t 27))⟩,
      ⟨some 29, none, .d (.bin .arith .lss (.t 25) (.t 28))⟩])
    (.cond (.t 29) (.skip) (.exit 0)))
    (.seq (.block 1 (.seq (.reg [⟨some 33, none, .d (.load true 1 (.t 2))⟩,
       ⟨some 34, none, .d (.load true 2 (.t 3))⟩,
       ⟨some 35, none, .d (.mv (.t 8))⟩,
       ⟨some 36, none, .w (.callL (.f f_lof) [(.t 33), (.t 34), (.t 35)] [1000000] 0 false)⟩,
       ⟨some 32, none, .d (.mv (.t 36))⟩,
       ⟨some 37, none, .d (.extract (.t 32) 0)⟩,
       ⟨some 38, none, .d (.extract (.t 32) 1)⟩,
       ⟨some 9, none, .d (.mv (.t 37))⟩,
       ⟨some 10, none, .d (.mv (.t 38))⟩])
     (.seq (.reg [⟨some 39, none, .d (.mv (.t 10))⟩,
       ⟨some 40, none, .d (.mv (.t 39))⟩,
       ⟨some 41, some (40, true), .d (.mv (.t 7))⟩,
       ⟨some 42, some (40, true), .d (.bin .arith .lss (.t 41) (.c (.int .i64 0)))⟩,
       ⟨some 43, some (40, true), .d (.mv (.t 42))⟩,
       ⟨some 44, some (43, false), .d (.mv (.t 9))⟩,
       ⟨some 45, some (43, false), .d (.mv (.t 7))⟩,
       ⟨some 46, some (43, false), .d (.bin .arith .lss (.t 44) (.t 45))⟩,
       ⟨some 47, some (40, true), .d (.pick (.t 43) (.c (.bool true)) (.t 46))⟩,
       ⟨some 48, none, .d (.pick (.t 40) (.t 47) (.c (.bool false)))⟩])
     (.cond (.t 48) (.reg [⟨some 49, none, .d (.mv (.t 9))⟩,
        ⟨some 7, none, .d (.mv (.t 49))⟩]) (.skip)))))
    (.reg [⟨some 30, none, .d (.mv (.t 8))⟩,
      ⟨some 31, none, .d (.bin .arith .add (.t 30) (.c (.int .i64 1)))⟩,
      ⟨some 8, none, .d (.mv (.t 31))⟩]))))))
  (.seq (.dreg [] [([], ⟨some 50, none, .d (.fa 0 (.t 2))⟩),
    ([], ⟨some 51, none, .d (.load false 1 (.t 50))⟩),
    ([], ⟨some 52, none, .d (.load true 2 (.t 3))⟩),
    ([], ⟨some 53, none, .d (.call (.f f_codeS) [(.t 52)])⟩),
    ([], ⟨some 54, none, .d (.mv (.t 7))⟩)] [⟨none, none, .w (.mapup none (.t 51) (.t 53) (.t 54))⟩])
  (.seq (.reg [⟨some 55, none, .d (.mv (.t 7))⟩,
    ⟨some 4, none, .d (.mv (.t 55))⟩])
  (.ret))))))), [.tmp 4]⟩
def n_lneed : Nat → Option Ann := fun d => if d = 36 then some ⟨[1000000], 0, false⟩ else none
abbrev k_lneed : List Nat := [0, 1, 2, 3, 4, 5, 6, 7, 8, 9, 10, 14, 23, 29, 48]
abbrev o_lneed : List Nat := [2, 3]
open Classical in
noncomputable def c_lneed : Con := fun args ext => match args, ext with
  | [.ag [.mp 1000000], .p (.agg [.sl 1 x_, .int .i64 m])], [.map es] => if isI x_ = true ∧ isES es = true ∧ isSh (ofI x_) m = true ∧ okLM m x_.length (ofES es) then some (.p (.int .i64 (lnT m (ofI x_))), [.map (entE (needE m (ofI x_) (ofES es)).2)], []) else none
  | _, _ => none
open Classical in
noncomputable def c_lof : Con := fun args ext => match args, ext with
  | [.ag [.mp 1000000], .p (.agg [.sl 1 x_, .int .i64 m]), .p (.int .i64 k)], [.map es] => if isI x_ = true ∧ isES es = true ∧ isSh (ofI x_) m = true ∧ okLM m x_.length (ofES es) ∧ 1 ≤ k ∧ k < x_.length then some (.tp [.p (.int .i64 (if vldT m (ofI x_) k.toNat = true then oneT m (ofI x_) k.toNat else 0)), .p (.bool (vldT m (ofI x_) k.toNat))], [.map (entE (ofE' m (ofI x_) k.toNat (ofES es)).2)], []) else none
  | _, _ => none
def muN : List SV → List Ob → Nat := fun args _ => match args with
  | [_, .p (.agg [.sl 1 x_, .int _ m])] => msL m (ofI x_)
  | _ => 0
noncomputable def c_lofK (j : Nat) : Con := fun args ext => match args with
  | [_, .p (.agg [.sl 1 x_, .int _ m]), _] => if msL m (ofI x_) ≤ j then c_lof args ext else none
  | _ => none
theorem max_mx (a b : Int) : (if b > a then b else a) = mxT a b := by
  simp only [mxT]
  split <;> split <;> omega
theorem mxT_bd {a b : Int} (h1 : 0 ≤ a ∧ a ≤ 100) (h2 : 0 ≤ b ∧ b ≤ 100) : 0 ≤ mxT a b ∧ mxT a b ≤ 100 := by
  simp only [mxT]; split <;> omega
theorem oneT_bd {m : Int} {x : List Int} {k : Nat} (h : isSh x m = true) (h1 : 1 ≤ k) (h2 : k < x.length) : 1 ≤ oneT m x k ∧ oneT m x k ≤ 101 := by
  have C := CS.of h
  have := mxT_bd (CS.of (C.sh k h1 h2 false)).lt (CS.of (C.sh k h1 h2 true)).lt
  simp only [oneT]; omega
theorem ky_dec {m : Int} {x : List Int} {k : Nat} {y : Bool} (h : isSh x m = true) (h1 : 1 ≤ k) (h2 : k < x.length) : decide (kyL 3 (aftL m k y x) = kyL 3 x) = decide (aftL m k y x = x) := by
  rw [Bool.eq_iff_iff, decide_eq_true_eq, decide_eq_true_eq]
  exact ⟨fun e => ky_inj (b := 3) (by omega) (sh_in ((CS.of h).sh k h1 h2 y)).2 (sh_in h).2 (aftL_len ..) e, fun e => by rw [e]⟩
theorem lof_walk {P : Program} (hm : P.follows .mixedOrders = true) {Γ : Gam} (hΓ : GS P Γ) {n f_less f_bothA f_isEqualS f_lneed : FuncId} {j : Nat} (is : Is P n (a_lof f_less f_bothA f_isEqualS f_lneed)) (h_less : Γ f_less = c_less) (h_bothA : Γ f_bothA = c_bothA) (h_isEqualS : Γ f_isEqualS = c_isEqualS) (h_lneed : Γ f_lneed = lim muN j c_lneed) : Says P n (c_lofK j) := by
  intro args ext r ext' fs h
  unfold c_lofK at h
  split at h
  case h_2 => cases h
  rename_i u x_ ki m v
  split at h
  case isFalse => cases h
  rename_i hmu
  unfold c_lof at h
  split at h
  case h_2 => cases h
  rename_i x_' m' k es heq
  split at h
  case isFalse => cases h
  rename_i hc
  injection heq with e1 e2; injection e2 with e2 e3; injection e3 with e3 e4
  injection e2 with e2; injection e2 with e2; injection e2 with e5 e6; injection e6 with e6 e7
  injection e5 with e5 e8; injection e6 with e6 e9
  subst e1; subst e8; subst e6; subst e9; subst e3
  obtain ⟨hx_, hes, hs, hok, hk1, hk2⟩ := hc
  obtain ⟨x, rfl⟩ := isI_out hx_
  have hes2 := isES_out hes
  generalize ofES es = E at hes2 hok h
  subst hes2
  rw [ints_len] at hok hk2
  simp only [ofI_ints, Option.some.injEq, Prod.mk.injEq] at h hs hmu
  obtain ⟨rfl, rfl, rfl⟩ := h
  obtain ⟨k, rfl⟩ : ∃ q : Nat, k = q := ⟨k.toNat, by omega⟩
  simp only [Int.toNat_natCast]
  have g1 : 1 ≤ k := by omega
  have g2 : k < x.length := by omega
  obtain ⟨hl1, hl5, hmm, _⟩ := sh_out hs
  have C := CS.of hs
  have h05 : (0 : Int) ≤ (k : Int) ∧ (k : Int) ≤ 5 := by omega
  have h1000 := sh_1000 hs
  have hlen := sh_len hs
  have ha0 := aft_ls (k := k) (by omega) (m := m) (y := false) hl5
  have ha1 := aft_ls (k := k) (by omega) (m := m) (y := true) hl5
  have hs0 := C.sh k g1 g2 false
  have hs1 := C.sh k g1 g2 true
  have hk0 := ky_dec (y := false) hs g1 g2
  have hk1' := ky_dec (y := true) hs g1 g2
  refine is.goX hm hΓ k_lof (1000000 :: o_lof) (by simp [a_lof]) (by simp) ?_
  by_cases q0 : aftL m k false x = x
  · have hv : vldT m x k = false := by simp [vldT, q0]
    have hE : ofE' m x k E = (none, E) := by simp only [ofE', ofG, if_pos (Or.inl q0)]
    have hd : decide (aftL m k false x = x) = true := dec_t q0
    rw [hv, hE]
    simp only [a_lof, h_less, c_less, h_bothA, c_bothA, h_isEqualS, c_isEqualS, h05, h1000, hlen, ha0, ha1, hs, hs0, hs1, hk0, hd, Int.toNat_natCast, Int.le_refl, Int.toNat_zero, Int.toNat_one, Int.reduceLE, Int.reduceToNat, Nat.zero_mul, Nat.one_mul, isI_ints, ofI_ints, List.zipIdx_cons, List.zipIdx_nil, ↓SP, SQ, Gam.add, stepM, callC, argC, lendO, nmBy, nmC, likeL, likeB, plainOb, offs, exL, X, F, trP, trO, stepD, stepW, newA, SV.tr, SV.trL, fz, allP, Ob.tr, loadA, cellsA, SV.cells, binA, binI, eqOut, isSl, isPt, natOf, callee, snap, SV.refsL, SV.refs, thaw, fzAll, loA, hiA, elemOf, partsA, buildA, putCells, ↓reduceIte, reduceCtorEq, okCell, Nat.reduceAdd, Nat.reduceEqDiff, Nat.reduceSub, Nat.reduceMul, Nat.reduceLeDiff, Nat.reduceLT, Nat.reduceBEq, PV.scal, PV.scalL, SV.scal, SV.scalL, Ob.scal, PV.isCell, pure', resO]
    refine finA_gen [] trivial (by simp [retA, rvA, List.mapM_cons, List.mapM_nil, Option.pure_def, Option.bind_eq_bind, Option.bind_some, Option.map_some, mkE_cons, mk_nil, mkO_cons, mkO_nil, loadA, ↓reduceIte, List.take_succ_cons, List.take_zero, List.drop_zero, List.drop_succ_cons, List.length_cons, List.length_nil, Nat.reduceAdd, Nat.reduceEqDiff, Nat.reduceLeDiff, Nat.zero_add, Nat.le_refl, reduceCtorEq, SV.tr, SV.trL, nmF, rn_nil, rn_cons1, rn_cons2, List.map_cons, List.map_nil, List.all_cons, List.all_nil, plainOb, SV.refsL, SV.refs, Ob.refs, X, F, List.range_succ, List.range_zero, List.nil_append, List.cons_append, List.isEmpty_nil, decide_true, Nat.reduceLT, Bool.and_self, Bool.and_true, and_self, and_true, List.getElem?_cons_zero, List.getElem?_cons_succ, List.nodup_cons, List.nodup_nil, List.mem_cons, List.not_mem_nil, not_false_eq_true, or_false, List.append_nil, mkO, setO_mk, List.mem_singleton]; rfl) ?_ ?_ ?_ ?_ ?_ ?_ ?_ <;> simp [retA, rvA, List.mapM_cons, List.mapM_nil, Option.pure_def, Option.bind_eq_bind, Option.bind_some, Option.map_some, mkE_cons, mk_nil, mkO_cons, mkO_nil, loadA, ↓reduceIte, List.take_succ_cons, List.take_zero, List.drop_zero, List.drop_succ_cons, List.length_cons, List.length_nil, Nat.reduceAdd, Nat.reduceEqDiff, Nat.reduceLeDiff, Nat.zero_add, Nat.le_refl, reduceCtorEq, SV.tr, SV.trL, nmF, rn_nil, rn_cons1, rn_cons2, List.map_cons, List.map_nil, List.all_cons, List.all_nil, plainOb, SV.refsL, SV.refs, Ob.refs, X, F, List.range_succ, List.range_zero, List.nil_append, List.cons_append, List.isEmpty_nil, decide_true, Nat.reduceLT, Bool.and_self, Bool.and_true, and_self, and_true, List.getElem?_cons_zero, List.getElem?_cons_succ, List.nodup_cons, List.nodup_nil, List.mem_cons, List.not_mem_nil, not_false_eq_true, or_false, List.append_nil, mkO, setO_mk, List.mem_singleton]
  · by_cases q1 : aftL m k true x = x
    · have hv : vldT m x k = false := by simp [vldT, q1]
      have hE : ofE' m x k E = (none, E) := by simp only [ofE', ofG, if_pos (Or.inr q1)]
      have hd : decide (aftL m k false x = x) = false := dec_f q0
      have hd1 : decide (aftL m k true x = x) = true := dec_t q1
      rw [hv, hE]
      simp only [a_lof, h_less, c_less, h_bothA, c_bothA, h_isEqualS, c_isEqualS, h05, h1000, hlen, ha0, ha1, hs, hs0, hs1, hk0, hk1', hd, hd1, Int.toNat_natCast, Int.le_refl, Int.toNat_zero, Int.toNat_one, Int.reduceLE, Int.reduceToNat, Nat.zero_mul, Nat.one_mul, isI_ints, ofI_ints, List.zipIdx_cons, List.zipIdx_nil, ↓SP, SQ, Gam.add, stepM, callC, argC, lendO, nmBy, nmC, likeL, likeB, plainOb, offs, exL, X, F, trP, trO, stepD, stepW, newA, SV.tr, SV.trL, fz, allP, Ob.tr, loadA, cellsA, SV.cells, binA, binI, eqOut, isSl, isPt, natOf, callee, snap, SV.refsL, SV.refs, thaw, fzAll, loA, hiA, elemOf, partsA, buildA, putCells, ↓reduceIte, reduceCtorEq, okCell, Nat.reduceAdd, Nat.reduceEqDiff, Nat.reduceSub, Nat.reduceMul, Nat.reduceLeDiff, Nat.reduceLT, Nat.reduceBEq, PV.scal, PV.scalL, SV.scal, SV.scalL, Ob.scal, PV.isCell, pure', resO]
      refine finA_gen [] trivial (by simp [retA, rvA, List.mapM_cons, List.mapM_nil, Option.pure_def, Option.bind_eq_bind, Option.bind_some, Option.map_some, mkE_cons, mk_nil, mkO_cons, mkO_nil, loadA, ↓reduceIte, List.take_succ_cons, List.take_zero, List.drop_zero, List.drop_succ_cons, List.length_cons, List.length_nil, Nat.reduceAdd, Nat.reduceEqDiff, Nat.reduceLeDiff, Nat.zero_add, Nat.le_refl, reduceCtorEq, SV.tr, SV.trL, nmF, rn_nil, rn_cons1, rn_cons2, List.map_cons, List.map_nil, List.all_cons, List.all_nil, plainOb, SV.refsL, SV.refs, Ob.refs, X, F, List.range_succ, List.range_zero, List.nil_append, List.cons_append, List.isEmpty_nil, decide_true, Nat.reduceLT, Bool.and_self, Bool.and_true, and_self, and_true, List.getElem?_cons_zero, List.getElem?_cons_succ, List.nodup_cons, List.nodup_nil, List.mem_cons, List.not_mem_nil, not_false_eq_true, or_false, List.append_nil, mkO, setO_mk, List.mem_singleton]; rfl) ?_ ?_ ?_ ?_ ?_ ?_ ?_ <;> simp [retA, rvA, List.mapM_cons, List.mapM_nil, Option.pure_def, Option.bind_eq_bind, Option.bind_some, Option.map_some, mkE_cons, mk_nil, mkO_cons, mkO_nil, loadA, ↓reduceIte, List.take_succ_cons, List.take_zero, List.drop_zero, List.drop_succ_cons, List.length_cons, List.length_nil, Nat.reduceAdd, Nat.reduceEqDiff, Nat.reduceLeDiff, Nat.zero_add, Nat.le_refl, reduceCtorEq, SV.tr, SV.trL, nmF, rn_nil, rn_cons1, rn_cons2, List.map_cons, List.map_nil, List.all_cons, List.all_nil, plainOb, SV.refsL, SV.refs, Ob.refs, X, F, List.range_succ, List.range_zero, List.nil_append, List.cons_append, List.isEmpty_nil, decide_true, Nat.reduceLT, Bool.and_self, Bool.and_true, and_self, and_true, List.getElem?_cons_zero, List.getElem?_cons_succ, List.nodup_cons, List.nodup_nil, List.mem_cons, List.not_mem_nil, not_false_eq_true, or_false, List.append_nil, mkO, setO_mk, List.mem_singleton]
    · have hv : vldT m x k = true := by simp [vldT, q0, q1]
      have hE : ofE' m x k E = (some (1 + mxT (needE m (aftL m k false x) E).1 (needE m (aftL m k true x) (needE m (aftL m k false x) E).2).1), (needE m (aftL m k true x) (needE m (aftL m k false x) E).2).2) := by
        simp only [ofE', ofG, if_neg (not_or.2 ⟨q0, q1⟩)]
      have hd : decide (aftL m k false x = x) = false := dec_f q0
      have hd1 : decide (aftL m k true x = x) = false := dec_f q1
      have m0 : msL m (aftL m k false x) < j := Nat.lt_of_lt_of_le (C.ms k g1 g2 false q0) hmu
      have m1 : msL m (aftL m k true x) < j := Nat.lt_of_lt_of_le (C.ms k g1 g2 true q1) hmu
      have hokA : okLM m (aftL m k false x).length E := by rw [aftL_len]; exact hok
      have hn0 := needE_good hs0 hokA
      have hokB := hn0.2
      rw [aftL_len] at hokB
      have hwr : IntKind.i64.wrap (1 + mxT (lnT m (aftL m k false x)) (lnT m (aftL m k true x))) = oneT m x k := by
        have := oneT_bd hs g1 g2
        rw [show 1 + mxT (lnT m (aftL m k false x)) (lnT m (aftL m k true x)) = oneT m x k from rfl]
        exact wrap64 (by omega) (by omega)
      rw [hv, hE]
      simp only [a_lof, h_less, c_less, h_bothA, c_bothA, h_isEqualS, c_isEqualS, h_lneed, c_lneed, lim, muN, m0, m1, hok, hokB, hwr, max_mx, isES_ent, ofES_ent, aftL_len, ints_len, h05, h1000, hlen, ha0, ha1, hs, hs0, hs1, hk0, hk1', hd, hd1, Int.toNat_natCast, Int.le_refl, Int.toNat_zero, Int.toNat_one, Int.reduceLE, Int.reduceToNat, Nat.zero_mul, Nat.one_mul, isI_ints, ofI_ints, List.zipIdx_cons, List.zipIdx_nil, ↓SP, SQ, Gam.add, stepM, callC, argC, lendO, nmBy, nmC, likeL, likeB, plainOb, offs, exL, X, F, trP, trO, stepD, stepW, newA, SV.tr, SV.trL, fz, allP, Ob.tr, loadA, cellsA, SV.cells, binA, binI, eqOut, isSl, isPt, natOf, callee, snap, SV.refsL, SV.refs, thaw, fzAll, loA, hiA, elemOf, partsA, buildA, putCells, ↓reduceIte, reduceCtorEq, okCell, Nat.reduceAdd, Nat.reduceEqDiff, Nat.reduceSub, Nat.reduceMul, Nat.reduceLeDiff, Nat.reduceLT, Nat.reduceBEq, PV.scal, PV.scalL, SV.scal, SV.scalL, Ob.scal, PV.isCell, pure', resO]
      refine finA_gen [] trivial (by simp [retA, rvA, List.mapM_cons, List.mapM_nil, Option.pure_def, Option.bind_eq_bind, Option.bind_some, Option.map_some, mkE_cons, mk_nil, mkO_cons, mkO_nil, loadA, ↓reduceIte, List.take_succ_cons, List.take_zero, List.drop_zero, List.drop_succ_cons, List.length_cons, List.length_nil, Nat.reduceAdd, Nat.reduceEqDiff, Nat.reduceLeDiff, Nat.zero_add, Nat.le_refl, reduceCtorEq, SV.tr, SV.trL, nmF, rn_nil, rn_cons1, rn_cons2, List.map_cons, List.map_nil, List.all_cons, List.all_nil, plainOb, SV.refsL, SV.refs, Ob.refs, X, F, List.range_succ, List.range_zero, List.nil_append, List.cons_append, List.isEmpty_nil, decide_true, Nat.reduceLT, Bool.and_self, Bool.and_true, and_self, and_true, List.getElem?_cons_zero, List.getElem?_cons_succ, List.nodup_cons, List.nodup_nil, List.mem_cons, List.not_mem_nil, not_false_eq_true, or_false, List.append_nil, mkO, setO_mk, List.mem_singleton]; rfl) ?_ ?_ ?_ ?_ ?_ ?_ ?_ <;> simp [retA, rvA, List.mapM_cons, List.mapM_nil, Option.pure_def, Option.bind_eq_bind, Option.bind_some, Option.map_some, mkE_cons, mk_nil, mkO_cons, mkO_nil, loadA, ↓reduceIte, List.take_succ_cons, List.take_zero, List.drop_zero, List.drop_succ_cons, List.length_cons, List.length_nil, Nat.reduceAdd, Nat.reduceEqDiff, Nat.reduceLeDiff, Nat.zero_add, Nat.le_refl, reduceCtorEq, SV.tr, SV.trL, nmF, rn_nil, rn_cons1, rn_cons2, List.map_cons, List.map_nil, List.all_cons, List.all_nil, plainOb, SV.refsL, SV.refs, Ob.refs, X, F, List.range_succ, List.range_zero, List.nil_append, List.cons_append, List.isEmpty_nil, decide_true, Nat.reduceLT, Bool.and_self, Bool.and_true, and_self, and_true, List.getElem?_cons_zero, List.getElem?_cons_succ, List.nodup_cons, List.nodup_nil, List.mem_cons, List.not_mem_nil, not_false_eq_true, or_false, List.append_nil, mkO, setO_mk, List.mem_singleton]
theorem lpE_step {m : Int} {x : List Int} {E : ES} (hs : isSh x m = true) (hok : okLM m x.length E) {i : Nat} (h : i + 1 < x.length) : lpE m x E (i + 1) = (if vldT m x (i + 1) = true then betT (oneT m x (i + 1)) (lpE m x E i).1 else (lpE m x E i).1, (ofE' m x (i + 1) (lpE m x E i).2).2) := by
  have g := lpE_good hs hok (j := i) (by omega)
  have o := ofE_good hs (k := i + 1) (by omega) h g.2
  have o1 : (ofG (needE m) m x (i + 1) (lpG (needE m) m x E i).2).1 = if vldT m x (i + 1) = true then some (oneT m x (i + 1)) else none := o.1
  simp only [lpE, lpG, o1]
  by_cases hv : vldT m x (i + 1) = true
  · simp only [if_pos hv, ofE']
  · simp only [if_neg hv, ofE']
theorem bst_bd {m : Int} {x : List Int} (hs : isSh x m = true) : ∀ j, j < x.length → -1 ≤ bstJ m x j ∧ bstJ m x j ≤ 101
  | 0, _ => by simp [bstJ]
  | j + 1, h => by
    have ih := bst_bd hs j (by omega)
    have := oneT_bd hs (k := j + 1) (by omega) h
    simp only [bstJ, betT]
    split
    · split <;> omega
    · exact ih
theorem lneed_walk {P : Program} (hm : P.follows .mixedOrders = true) {Γ : Gam} (hΓ : GS P Γ) {n f_opened f_codeS f_lof : FuncId} {j : Nat} (is : Is P n (a_lneed f_opened f_codeS f_lof)) (h_opened : Γ f_opened = c_l2Open) (h_codeS : Γ f_codeS = c_codeS) (h_lof : Γ f_lof = c_lofK j) : ∀ args ext r ext' fs, c_lneed args ext = some (r, ext', fs) → muN args ext ≤ j → PC P n args ext r ext' fs := by
  intro args ext r ext' fs h hmu
  unfold c_lneed at h
  split at h
  case h_2 => cases h
  rename_i x_ m es
  split at h
  case isFalse => cases h
  rename_i hc
  obtain ⟨hx_, hes, hs, hok⟩ := hc
  obtain ⟨x, rfl⟩ := isI_out hx_
  have hes2 := isES_out hes
  generalize ofES es = E at hes2 hok h
  subst hes2
  rw [ints_len] at hok
  simp only [ofI_ints, Option.some.injEq, Prod.mk.injEq, muN] at h hs hmu
  obtain ⟨rfl, rfl, rfl⟩ := h
  obtain ⟨hl1, hl5, hmm, _⟩ := sh_out hs
  have C := CS.of hs
  have hlen := sh_len hs
  have hg0 := needE_good hs hok
  have hstep := needE_step hs E
  have hlo := opens_len x
  refine is.goX hm hΓ k_lneed (1000000 :: o_lneed) (by simp [a_lneed]) (by simp) ?_
  by_cases ho : (opens x).length < 2
  · have ho1 : ((opens x).length : Int) ≤ 1 := by omega
    rw [if_pos ho] at hstep
    have hz := C.zero ho
    rw [hstep, hz]
    simp only [a_lneed, h_opened, c_l2Open, hlen, ho1, ints_len, isI_ints, ofI_ints, List.zipIdx_cons, List.zipIdx_nil, ↓SP, SQ, Gam.add, stepM, callC, argC, lendO, nmBy, nmC, likeL, likeB, plainOb, offs, exL, X, F, trP, trO, stepD, stepW, newA, SV.tr, SV.trL, fz, allP, Ob.tr, loadA, cellsA, SV.cells, binA, binI, eqOut, isSl, isPt, natOf, callee, snap, SV.refsL, SV.refs, thaw, fzAll, loA, hiA, elemOf, partsA, buildA, putCells, ↓reduceIte, reduceCtorEq, okCell, Nat.reduceAdd, Nat.reduceEqDiff, Nat.reduceSub, Nat.reduceMul, Nat.reduceLeDiff, Nat.reduceLT, Nat.reduceBEq, PV.scal, PV.scalL, SV.scal, SV.scalL, Ob.scal, PV.isCell, pure', resO]
    refine finA_gen [] trivial (by simp [retA, rvA, List.mapM_cons, List.mapM_nil, Option.pure_def, Option.bind_eq_bind, Option.bind_some, Option.map_some, mkE_cons, mk_nil, mkO_cons, mkO_nil, loadA, ↓reduceIte, List.take_succ_cons, List.take_zero, List.drop_zero, List.drop_succ_cons, List.length_cons, List.length_nil, Nat.reduceAdd, Nat.reduceEqDiff, Nat.reduceLeDiff, Nat.zero_add, Nat.le_refl, reduceCtorEq, SV.tr, SV.trL, nmF, rn_nil, rn_cons1, rn_cons2, List.map_cons, List.map_nil, List.all_cons, List.all_nil, plainOb, SV.refsL, SV.refs, Ob.refs, X, F, List.range_succ, List.range_zero, List.nil_append, List.cons_append, List.isEmpty_nil, decide_true, Nat.reduceLT, Bool.and_self, Bool.and_true, and_self, and_true, List.getElem?_cons_zero, List.getElem?_cons_succ, List.nodup_cons, List.nodup_nil, List.mem_cons, List.not_mem_nil, not_false_eq_true, or_false, List.append_nil, mkO, setO_mk, List.mem_singleton]; rfl) ?_ ?_ ?_ ?_ ?_ ?_ ?_ <;> simp [retA, rvA, List.mapM_cons, List.mapM_nil, Option.pure_def, Option.bind_eq_bind, Option.bind_some, Option.map_some, mkE_cons, mk_nil, mkO_cons, mkO_nil, loadA, ↓reduceIte, List.take_succ_cons, List.take_zero, List.drop_zero, List.drop_succ_cons, List.length_cons, List.length_nil, Nat.reduceAdd, Nat.reduceEqDiff, Nat.reduceLeDiff, Nat.zero_add, Nat.le_refl, reduceCtorEq, SV.tr, SV.trL, nmF, rn_nil, rn_cons1, rn_cons2, List.map_cons, List.map_nil, List.all_cons, List.all_nil, plainOb, SV.refsL, SV.refs, Ob.refs, X, F, List.range_succ, List.range_zero, List.nil_append, List.cons_append, List.isEmpty_nil, decide_true, Nat.reduceLT, Bool.and_self, Bool.and_true, and_self, and_true, List.getElem?_cons_zero, List.getElem?_cons_succ, List.nodup_cons, List.nodup_nil, List.mem_cons, List.not_mem_nil, not_false_eq_true, or_false, List.append_nil, mkO, setO_mk, List.mem_singleton]
  · have ho1 : ¬ ((opens x).length : Int) ≤ 1 := by omega
    rw [if_neg ho] at hstep
    cases hlk : lkE (kyL 3 x) E with
    | some v =>
      rw [hlk] at hstep
      have hv : v = lnT m x := hok x hs rfl v hlk
      subst hv
      rw [hstep]
      simp only [a_lneed, h_opened, c_l2Open, h_codeS, c_codeS, hs, hlk, lookA, esOf, keyA, keysOk, look_entE, Option.map_some, hlen, ho1, ints_len, isI_ints, ofI_ints, List.zipIdx_cons, List.zipIdx_nil, ↓SP, SQ, Gam.add, stepM, callC, argC, lendO, nmBy, nmC, likeL, likeB, plainOb, offs, exL, X, F, trP, trO, stepD, stepW, newA, SV.tr, SV.trL, fz, allP, Ob.tr, loadA, cellsA, SV.cells, binA, binI, eqOut, isSl, isPt, natOf, callee, snap, SV.refsL, SV.refs, thaw, fzAll, loA, hiA, elemOf, partsA, buildA, putCells, ↓reduceIte, reduceCtorEq, okCell, Nat.reduceAdd, Nat.reduceEqDiff, Nat.reduceSub, Nat.reduceMul, Nat.reduceLeDiff, Nat.reduceLT, Nat.reduceBEq, PV.scal, PV.scalL, SV.scal, SV.scalL, Ob.scal, PV.isCell, pure', resO]
      refine finA_gen [] trivial (by simp [retA, rvA, List.mapM_cons, List.mapM_nil, Option.pure_def, Option.bind_eq_bind, Option.bind_some, Option.map_some, mkE_cons, mk_nil, mkO_cons, mkO_nil, loadA, ↓reduceIte, List.take_succ_cons, List.take_zero, List.drop_zero, List.drop_succ_cons, List.length_cons, List.length_nil, Nat.reduceAdd, Nat.reduceEqDiff, Nat.reduceLeDiff, Nat.zero_add, Nat.le_refl, reduceCtorEq, SV.tr, SV.trL, nmF, rn_nil, rn_cons1, rn_cons2, List.map_cons, List.map_nil, List.all_cons, List.all_nil, plainOb, SV.refsL, SV.refs, Ob.refs, X, F, List.range_succ, List.range_zero, List.nil_append, List.cons_append, List.isEmpty_nil, decide_true, Nat.reduceLT, Bool.and_self, Bool.and_true, and_self, and_true, List.getElem?_cons_zero, List.getElem?_cons_succ, List.nodup_cons, List.nodup_nil, List.mem_cons, List.not_mem_nil, not_false_eq_true, or_false, List.append_nil, mkO, setO_mk, List.mem_singleton]; rfl) ?_ ?_ ?_ ?_ ?_ ?_ ?_ <;> simp [retA, rvA, List.mapM_cons, List.mapM_nil, Option.pure_def, Option.bind_eq_bind, Option.bind_some, Option.map_some, mkE_cons, mk_nil, mkO_cons, mkO_nil, loadA, ↓reduceIte, List.take_succ_cons, List.take_zero, List.drop_zero, List.drop_succ_cons, List.length_cons, List.length_nil, Nat.reduceAdd, Nat.reduceEqDiff, Nat.reduceLeDiff, Nat.zero_add, Nat.le_refl, reduceCtorEq, SV.tr, SV.trL, nmF, rn_nil, rn_cons1, rn_cons2, List.map_cons, List.map_nil, List.all_cons, List.all_nil, plainOb, SV.refsL, SV.refs, Ob.refs, X, F, List.range_succ, List.range_zero, List.nil_append, List.cons_append, List.isEmpty_nil, decide_true, Nat.reduceLT, Bool.and_self, Bool.and_true, and_self, and_true, List.getElem?_cons_zero, List.getElem?_cons_succ, List.nodup_cons, List.nodup_nil, List.mem_cons, List.not_mem_nil, not_false_eq_true, or_false, List.append_nil, mkO, setO_mk, List.mem_singleton]
    | none =>
      rw [hlk] at hstep
      have hlast := lpE_good hs hok (j := x.length - 1) (by omega)
      have hend := bst_end hs ho
      rw [hend] at hlast
      have hstep2 : (needE m x E).2 = setE (kyL 3 x) (lnT m x) (lpE m x E (x.length - 1)).2 := by
        rw [hstep]
        simp only
        rw [show (lpG (needE m) m x E (x.length - 1)).1 = lnT m x from hlast.1]; rfl
      rw [hstep2]
      simp only [a_lneed, h_opened, c_l2Open, h_codeS, c_codeS, hs, hlk, lookA, esOf, keyA, keysOk, look_entE, Option.map_none, hlen, ho1, ints_len, isI_ints, ofI_ints, List.zipIdx_cons, List.zipIdx_nil, ↓SP, SQ, Gam.add, stepM, callC, argC, lendO, nmBy, nmC, likeL, likeB, plainOb, offs, exL, X, F, trP, trO, stepD, stepW, newA, SV.tr, SV.trL, fz, allP, Ob.tr, loadA, cellsA, SV.cells, binA, binI, eqOut, isSl, isPt, natOf, callee, snap, SV.refsL, SV.refs, thaw, fzAll, loA, hiA, elemOf, partsA, buildA, putCells, ↓reduceIte, reduceCtorEq, okCell, Nat.reduceAdd, Nat.reduceEqDiff, Nat.reduceSub, Nat.reduceMul, Nat.reduceLeDiff, Nat.reduceLT, Nat.reduceBEq, PV.scal, PV.scalL, SV.scal, SV.scalL, Ob.scal, PV.isCell, pure', resO]
      refine loop_at (fun s : Nat × SV × SV × SV × SV => mkEnv [(0, .ag [.mp 1000000]), (1, .p (.agg [.sl 1 (ints x), .int .i64 m])), (2, .bx 2 0), (3, .bx 3 0), (4, si 0), (5, si 0), (6, sb false), (7, si (lpE m x E s.1).1), (8, si ((s.1 + 1 : Nat) : Int)), (9, s.2.1), (10, s.2.2.1), (14, sb false), (23, sb false), (29, s.2.2.2.1), (48, s.2.2.2.2)]) (fun s => mkO [(1000000, some (.map (entE (lpE m x E s.1).2))), (2, some (.box [.mp 1000000])), (3, some (.box [.p (.sl 1 (ints x)), si m]))]) (fun s => s.1 < x.length) (fun s => x.length - s.1) (0, .junk, .junk, .junk, .junk) (by simp; omega) rfl rfl ?_
      rintro ⟨i, c1, c2, c3, c4⟩ hi R hR hN
      simp only at hi
      by_cases h : i + 1 < x.length
      · have h1 : ((i + 1 : Nat) : Int) < x.length := by omega
        have h1' : (1 : Int) ≤ ((i + 1 : Nat) : Int) := by omega
        have hw := wrap_one (i := i + 1) (by omega)
        obtain ⟨e1, e2⟩ := lpE_good hs hok (j := i) hi
        have hst := lpE_step hs hok h
        have hbb := bst_bd hs i hi
        have hbs := bst_bd hs (i + 1) h
        rw [← e1] at hbb
        cases hv : vldT m x (i + 1) with
        | false =>
          have hq : lpE m x E (i + 1) = ((lpE m x E i).1, (ofE' m x (i + 1) (lpE m x E i).2).2) := by rw [hst, hv]; rfl
          simp only [h1, h1', hw, hs, hmu, e2, hv, h_lof, c_lofK, c_lof, isES_ent, ofES_ent, Int.toNat_natCast, ints_len, isI_ints, ofI_ints, Bool.false_eq_true, ↓SP, SQ, Gam.add, stepM, callC, argC, lendO, nmBy, nmC, likeL, likeB, plainOb, offs, exL, X, F, trP, trO, stepD, stepW, newA, SV.tr, SV.trL, fz, allP, Ob.tr, loadA, cellsA, SV.cells, binA, binI, eqOut, isSl, isPt, natOf, callee, snap, SV.refsL, SV.refs, thaw, fzAll, loA, hiA, elemOf, partsA, buildA, putCells, ↓reduceIte, reduceCtorEq, okCell, Nat.reduceAdd, Nat.reduceEqDiff, Nat.reduceSub, Nat.reduceMul, Nat.reduceLeDiff, Nat.reduceLT, Nat.reduceBEq, PV.scal, PV.scalL, SV.scal, SV.scalL, Ob.scal, PV.isCell, pure', resO]
          exact hN (i + 1, _, _, _, _) _ _ (by simp only; omega) (by simp only; omega) (by rw [hq]) (by rw [hq])
        | true =>
          have hq : lpE m x E (i + 1) = (betT (oneT m x (i + 1)) (lpE m x E i).1, (ofE' m x (i + 1) (lpE m x E i).2).2) := by rw [hst, hv]; rfl
          by_cases hb : (lpE m x E i).1 < 0
          · have hbe : betT (oneT m x (i + 1)) (lpE m x E i).1 = oneT m x (i + 1) := by simp only [betT, if_pos (Or.inl hb)]
            rw [hbe] at hq
            simp only [h1, h1', hw, hs, hmu, e2, hv, hb, h_lof, c_lofK, c_lof, isES_ent, ofES_ent, Int.toNat_natCast, ints_len, isI_ints, ofI_ints, Bool.false_eq_true, ↓SP, SQ, Gam.add, stepM, callC, argC, lendO, nmBy, nmC, likeL, likeB, plainOb, offs, exL, X, F, trP, trO, stepD, stepW, newA, SV.tr, SV.trL, fz, allP, Ob.tr, loadA, cellsA, SV.cells, binA, binI, eqOut, isSl, isPt, natOf, callee, snap, SV.refsL, SV.refs, thaw, fzAll, loA, hiA, elemOf, partsA, buildA, putCells, ↓reduceIte, reduceCtorEq, okCell, Nat.reduceAdd, Nat.reduceEqDiff, Nat.reduceSub, Nat.reduceMul, Nat.reduceLeDiff, Nat.reduceLT, Nat.reduceBEq, PV.scal, PV.scalL, SV.scal, SV.scalL, Ob.scal, PV.isCell, pure', resO]
            exact hN (i + 1, _, _, _, _) _ _ (by simp only; omega) (by simp only; omega) (by rw [hq]) (by rw [hq])
          · by_cases hb2 : oneT m x (i + 1) < (lpE m x E i).1
            · have hbe : betT (oneT m x (i + 1)) (lpE m x E i).1 = oneT m x (i + 1) := by simp only [betT, if_pos (Or.inr hb2)]
              rw [hbe] at hq
              simp only [h1, h1', hw, hs, hmu, e2, hv, hb, hb2, h_lof, c_lofK, c_lof, isES_ent, ofES_ent, Int.toNat_natCast, ints_len, isI_ints, ofI_ints, Bool.false_eq_true, ↓SP, SQ, Gam.add, stepM, callC, argC, lendO, nmBy, nmC, likeL, likeB, plainOb, offs, exL, X, F, trP, trO, stepD, stepW, newA, SV.tr, SV.trL, fz, allP, Ob.tr, loadA, cellsA, SV.cells, binA, binI, eqOut, isSl, isPt, natOf, callee, snap, SV.refsL, SV.refs, thaw, fzAll, loA, hiA, elemOf, partsA, buildA, putCells, ↓reduceIte, reduceCtorEq, okCell, Nat.reduceAdd, Nat.reduceEqDiff, Nat.reduceSub, Nat.reduceMul, Nat.reduceLeDiff, Nat.reduceLT, Nat.reduceBEq, PV.scal, PV.scalL, SV.scal, SV.scalL, Ob.scal, PV.isCell, pure', resO]
              exact hN (i + 1, _, _, _, _) _ _ (by simp only; omega) (by simp only; omega) (by rw [hq]) (by rw [hq])
            · have hbe : betT (oneT m x (i + 1)) (lpE m x E i).1 = (lpE m x E i).1 := by simp only [betT, if_neg (not_or.2 ⟨hb, hb2⟩)]
              rw [hbe] at hq
              simp only [h1, h1', hw, hs, hmu, e2, hv, hb, hb2, h_lof, c_lofK, c_lof, isES_ent, ofES_ent, Int.toNat_natCast, ints_len, isI_ints, ofI_ints, Bool.false_eq_true, ↓SP, SQ, Gam.add, stepM, callC, argC, lendO, nmBy, nmC, likeL, likeB, plainOb, offs, exL, X, F, trP, trO, stepD, stepW, newA, SV.tr, SV.trL, fz, allP, Ob.tr, loadA, cellsA, SV.cells, binA, binI, eqOut, isSl, isPt, natOf, callee, snap, SV.refsL, SV.refs, thaw, fzAll, loA, hiA, elemOf, partsA, buildA, putCells, ↓reduceIte, reduceCtorEq, okCell, Nat.reduceAdd, Nat.reduceEqDiff, Nat.reduceSub, Nat.reduceMul, Nat.reduceLeDiff, Nat.reduceLT, Nat.reduceBEq, PV.scal, PV.scalL, SV.scal, SV.scalL, Ob.scal, PV.isCell, pure', resO]
              exact hN (i + 1, _, _, _, _) _ _ (by simp only; omega) (by simp only; omega) (by rw [hq]) (by rw [hq])
      · have he : i = x.length - 1 := by omega
        have h1 : ¬ ((i + 1 : Nat) : Int) < x.length := by omega
        simp only [h1, ints_len, ↓SP, SQ, Gam.add, stepM, callC, argC, lendO, nmBy, nmC, likeL, likeB, plainOb, offs, exL, X, F, trP, trO, stepD, stepW, newA, SV.tr, SV.trL, fz, allP, Ob.tr, loadA, cellsA, SV.cells, binA, binI, eqOut, isSl, isPt, natOf, callee, snap, SV.refsL, SV.refs, thaw, fzAll, loA, hiA, elemOf, partsA, buildA, putCells, ↓reduceIte, reduceCtorEq, okCell, Nat.reduceAdd, Nat.reduceEqDiff, Nat.reduceSub, Nat.reduceMul, Nat.reduceLeDiff, Nat.reduceLT, Nat.reduceBEq, PV.scal, PV.scalL, SV.scal, SV.scalL, Ob.scal, PV.isCell, pure', resO]
        refine hR _ _ _ (by intro h; cases h) ?_
        subst he
        simp only [hlast.1, h_codeS, c_codeS, hs, keyA, keysOk, mset_entE, isI_ints, ofI_ints, ↓SP, SQ, Gam.add, stepM, callC, argC, lendO, nmBy, nmC, likeL, likeB, plainOb, offs, exL, X, F, trP, trO, stepD, stepW, newA, SV.tr, SV.trL, fz, allP, Ob.tr, loadA, cellsA, SV.cells, binA, binI, eqOut, isSl, isPt, natOf, callee, snap, SV.refsL, SV.refs, thaw, fzAll, loA, hiA, elemOf, partsA, buildA, putCells, ↓reduceIte, reduceCtorEq, okCell, Nat.reduceAdd, Nat.reduceEqDiff, Nat.reduceSub, Nat.reduceMul, Nat.reduceLeDiff, Nat.reduceLT, Nat.reduceBEq, PV.scal, PV.scalL, SV.scal, SV.scalL, Ob.scal, PV.isCell, pure', resO]
        refine finA_gen [] trivial (by simp [retA, rvA, List.mapM_cons, List.mapM_nil, Option.pure_def, Option.bind_eq_bind, Option.bind_some, Option.map_some, mkE_cons, mk_nil, mkO_cons, mkO_nil, loadA, ↓reduceIte, List.take_succ_cons, List.take_zero, List.drop_zero, List.drop_succ_cons, List.length_cons, List.length_nil, Nat.reduceAdd, Nat.reduceEqDiff, Nat.reduceLeDiff, Nat.zero_add, Nat.le_refl, reduceCtorEq, SV.tr, SV.trL, nmF, rn_nil, rn_cons1, rn_cons2, List.map_cons, List.map_nil, List.all_cons, List.all_nil, plainOb, SV.refsL, SV.refs, Ob.refs, X, F, List.range_succ, List.range_zero, List.nil_append, List.cons_append, List.isEmpty_nil, decide_true, Nat.reduceLT, Bool.and_self, Bool.and_true, and_self, and_true, List.getElem?_cons_zero, List.getElem?_cons_succ, List.nodup_cons, List.nodup_nil, List.mem_cons, List.not_mem_nil, not_false_eq_true, or_false, List.append_nil, mkO, setO_mk, List.mem_singleton]; rfl) ?_ ?_ ?_ ?_ ?_ ?_ ?_ <;> simp [retA, rvA, List.mapM_cons, List.mapM_nil, Option.pure_def, Option.bind_eq_bind, Option.bind_some, Option.map_some, mkE_cons, mk_nil, mkO_cons, mkO_nil, loadA, ↓reduceIte, List.take_succ_cons, List.take_zero, List.drop_zero, List.drop_succ_cons, List.length_cons, List.length_nil, Nat.reduceAdd, Nat.reduceEqDiff, Nat.reduceLeDiff, Nat.zero_add, Nat.le_refl, reduceCtorEq, SV.tr, SV.trL, nmF, rn_nil, rn_cons1, rn_cons2, List.map_cons, List.map_nil, List.all_cons, List.all_nil, plainOb, SV.refsL, SV.refs, Ob.refs, X, F, List.range_succ, List.range_zero, List.nil_append, List.cons_append, List.isEmpty_nil, decide_true, Nat.reduceLT, Bool.and_self, Bool.and_true, and_self, and_true, List.getElem?_cons_zero, List.getElem?_cons_succ, List.nodup_cons, List.nodup_nil, List.mem_cons, List.not_mem_nil, not_false_eq_true, or_false, List.append_nil, mkO, setO_mk, List.mem_singleton]
theorem s_lneed {P : Program} (hm : P.follows .mixedOrders = true) {Γ : Gam} (hΓ : GS P Γ) {n f_opened f_codeS f_lof f_less f_bothA f_isEqualS : FuncId} (is : Is P n (a_lneed f_opened f_codeS f_lof)) (is2 : Is P f_lof (a_lof f_less f_bothA f_isEqualS n)) (hne : f_opened ≠ n ∧ f_codeS ≠ n ∧ f_opened ≠ f_lof ∧ f_codeS ≠ f_lof ∧ f_less ≠ n ∧ f_bothA ≠ n ∧ f_isEqualS ≠ n) (h_opened : Γ f_opened = c_l2Open) (h_codeS : Γ f_codeS = c_codeS) (h_less : Γ f_less = c_less) (h_bothA : Γ f_bothA = c_bothA) (h_isEqualS : Γ f_isEqualS = c_isEqualS) : Says P n c_lneed := by
  refine Says.rec hΓ muN fun k hk args ext r ext' fs h hmu => ?_
  obtain ⟨n1, n2, n3, n4, n5, n6, n7⟩ := hne
  have h2 : Says P f_lof (c_lofK k) := lof_walk hm hk is2 (by simp [Gam.addX, n5, h_less]) (by simp [Gam.addX, n6, h_bothA]) (by simp [Gam.addX, n7, h_isEqualS]) (by simp [Gam.addX])
  exact lneed_walk (j := k) hm (hk.addX h2) is (by simp [Gam.addX, n1, n3, h_opened]) (by simp [Gam.addX, n2, n4, h_codeS]) (by simp [Gam.addX]) args ext r ext' fs h (by omega)
theorem s_lof {P : Program} (hm : P.follows .mixedOrders = true) {Γ : Gam} (hΓ : GS P Γ) {n f_less f_bothA f_isEqualS f_lneed : FuncId} (is : Is P n (a_lof f_less f_bothA f_isEqualS f_lneed)) (h_less : Γ f_less = c_less) (h_bothA : Γ f_bothA = c_bothA) (h_isEqualS : Γ f_isEqualS = c_isEqualS) (h_lneed : Γ f_lneed = c_lneed) : Says P n c_lof := by
  intro args ext r ext' fs h
  have hg : GS P (Γ.addX f_lneed (lim muN 100 c_lneed)) := by
    intro f' args ext r ext' fs he
    unfold Gam.addX at he
    split at he
    · rename_i hf
      unfold lim at he
      split at he
      · exact hΓ _ _ _ _ _ _ (by rw [hf, h_lneed]; exact he)
      · cases he
    · exact hΓ _ _ _ _ _ _ he
  by_cases hne : f_less = f_lneed ∨ f_bothA = f_lneed ∨ f_isEqualS = f_lneed
  · exfalso
    have hbad : ∀ {c : Con} {v : List SV}, c v [] ≠ none → c = c_lneed → False := fun h e => by
      rw [e] at h
      simp [c_lneed] at h
    rcases hne with e | e | e
    · rw [e, h_lneed] at h_less
      exact hbad (c := c_less) (v := [.p (.int .i64 1)]) (by simp [c_less, pure']) h_less.symm
    · rw [e, h_lneed] at h_bothA
      exact hbad (c := c_bothA) (v := [.p (.agg [.sl 1 (ints []), .int .i64 0]), .p (.int .i64 0)]) (by simp [c_bothA, pure', ints]; exact ⟨rfl, by decide, fun x h => by cases h⟩) h_bothA.symm
    · rw [e, h_lneed] at h_isEqualS
      exact hbad (c := c_isEqualS) (v := [.p (.agg [.sl 1 (ints [0]), .int .i64 0]), .p (.agg [.sl 1 (ints [0]), .int .i64 0])]) (by simp [c_isEqualS, pure', isI_ints, ofI_ints, isSh, isSt]) h_isEqualS.symm
  · obtain ⟨n5, hne⟩ := not_or.1 hne
    obtain ⟨n6, n7⟩ := not_or.1 hne
    refine lof_walk (j := 100) hm hg is (by simp [Gam.addX, n5, h_less]) (by simp [Gam.addX, n6, h_bothA]) (by simp [Gam.addX, n7, h_isEqualS]) (by simp [Gam.addX]) args ext r ext' fs ?_
    have h' := h
    unfold c_lof at h'
    split at h'
    case h_2 => cases h'
    rename_i x_ m k es
    split at h'
    case isFalse => cases h'
    rename_i hc
    simp only [c_lofK]
    rw [if_pos (by have := (CS.of hc.2.2.1).le; omega)]
    exact h
end Go.Proofs.Ytihpfhdkjlphhaa.Pam
