/- A part of the proof that stands in this folder: a small machine whose steps are shown to be the steps of the model, or walks of functions by it. No condition of its own. -/
import Derived.Test.YtihpfhdkjlphhaaGdNL
set_option linter.unusedVariables false
set_option linter.unusedSimpArgs false
namespace Go.Proofs.Ytihpfhdkjlphhaa.Pam
open Go
/-- Whether yes keeps more open than no. -/
def aftS (m q : Int) (y : Bool) (x : List Int) : List Int := afterL (fun i => (bitW q (i : Int) == 1) != y) m x
def hldV (m q : Int) (x : List Int) : Bool := decide (ndI true (cntL m (aftS m q true x)) > ndI true (cntL m (aftS m q false x)))
theorem afts_ok {x : List Int} {m q : Int} {y : Bool} (h : isSt x m = true) (h8 : (opens x).length ≤ 8) : isSt (aftS m q y x) m = true ∧ okC (cntL m (aftS m q y x)) = true ∧ (cntL m (aftS m q y x)).length = (m + 1).toNat := by
  obtain ⟨g1, g2⟩ := afterL_st (f := fun i => (bitW q (i : Int) == 1) != y) h
  obtain ⟨g3, _, g5⟩ := cnt_okC g1 (by omega)
  exact ⟨g1, g3, g5⟩
def a_hold (f_bothA : FuncId) (f_countsS : FuncId) (f_nOf : FuncId) : AFn := ⟨3, 
  .seq (.reg [⟨some 3, none, .w (.box 2 (.t 0))⟩,
    ⟨some 4, none, .w (.box 2 (.t 1))⟩,
    ⟨some 6, none, .d (.mv (.c (.bool false)))⟩])
  (.seq (.reg [⟨some 8, none, .d (.load true 2 (.t 3))⟩,
    ⟨some 9, none, .d (.mv (.t 2))⟩,
    ⟨some 10, none, .d (.call (.f f_bothA) [(.t 8), (.t 9)])⟩,
    ⟨some 7, none, .w (.alloc [.nilsl, .int .i64 0, .nilsl, .int .i64 0])⟩,
    ⟨none, none, .w (.store 4 (.t 7) (.t 10))⟩])
  (.seq (.dreg [] [([], ⟨some 11, none, .d (.load true 2 (.t 4))⟩),
    ([], ⟨some 12, none, .d (.iaA 2 2 (.t 7) (.c (.int .i64 1)))⟩),
    ([], ⟨some 13, none, .d (.load true 2 (.t 12))⟩),
    ([], ⟨some 14, none, .d (.call (.f f_countsS) [(.t 13)])⟩),
    ([], ⟨some 15, none, .d (.call (.f f_nOf) [(.t 11), (.t 14)])⟩),
    ([], ⟨some 16, none, .d (.load true 2 (.t 4))⟩),
    ([], ⟨some 17, none, .d (.iaA 2 2 (.t 7) (.c (.int .i64 0)))⟩),
    ([], ⟨some 18, none, .d (.load true 2 (.t 17))⟩),
    ([], ⟨some 19, none, .d (.call (.f f_countsS) [(.t 18)])⟩)] [⟨some 20, none, .d (.call (.f f_nOf) [(.t 16), (.t 19)])⟩,
    ⟨some 21, none, .d (.bin .arith .gtr (.t 15) (.t 20))⟩,
    ⟨some 6, none, .d (.mv (.t 21))⟩])
  (.ret))), [.tmp 6]⟩
def n_hold : Nat → Option Ann := fun _ => none
abbrev k_hold : List Nat := [0, 1, 2, 3, 4, 6, 7]
abbrev o_hold : List Nat := [3, 4, 7]
open Classical in
noncomputable def c_hold : Con := pure' fun
  | [.p (.agg [.sl 1 x_, .int .i64 m]), .p (.agg [.fn g [] [], .mapv es]), .p (.int .i64 q)] => if isI x_ = true ∧ es = nES true ∧ isSt (ofI x_) m = true ∧ (opens (ofI x_)).length ≤ 8 then some (.p (.bool (hldV m q (ofI x_))), []) else none
  | _ => none
theorem s_hold {P : Program} (hm : P.follows .mixedOrders = true) {Γ : Gam} (hΓ : GS P Γ) {n : FuncId} {f_bothA : FuncId} {f_countsS : FuncId} {f_nOf : FuncId} (is : Is P n (a_hold f_bothA f_countsS f_nOf)) (h_bothA : Γ f_bothA = c_bothA) (h_countsS : Γ f_countsS = c_countsS) (h_nOf : Γ f_nOf = c_nOf)  : Says P n c_hold := by
  refine Says.pure fun args r fs h => ?_
  split at h
  case h_2 => cases h
  rename_i x_ m g es q
  split at h
  case isFalse => cases h
  rename_i hc
  obtain ⟨hx_, rfl, hs, h8⟩ := hc
  obtain ⟨x, rfl⟩ := isI_out hx_
  simp only [ofI_ints, Option.some.injEq, Prod.mk.injEq] at h hs h8
  obtain ⟨rfl, rfl⟩ := h
  obtain ⟨t1, t2, t3⟩ := afts_ok (q := q) (y := true) hs h8
  obtain ⟨f1, f2, f3⟩ := afts_ok (q := q) (y := false) hs h8
  have hmm := (st_out hs).2.1
  have hE := okE_nES true
  have eT := ofE_nES true t2
  have eF := ofE_nES true f2
  have hlen : x.length ≤ 1100000 := by have := (st_out hs).1; omega
  have h1000 := isSt_small hs
  have aT : afterL (fun i => (bitW q (i : Int) == 1) != true) m x = aftS m q true x := rfl
  have aF : afterL (fun i => (bitW q (i : Int) == 1) != false) m x = aftS m q false x := rfl
  have cT : 1 ≤ (cntL m (aftS m q true x)).length ∧ (cntL m (aftS m q true x)).length ≤ 3 := by omega
  have cF : 1 ≤ (cntL m (aftS m q false x)).length ∧ (cntL m (aftS m q false x)).length ≤ 3 := by omega
  refine is.go hm hΓ k_hold o_hold (by simp [a_hold]) ?_
  simp only [a_hold, h_bothA, c_bothA, h_countsS, c_countsS, h_nOf, c_nOf, hs, hlen, h1000, aT, aF, t1, f1, hE, eT, eF, cT, cF, Int.le_refl, Int.toNat_zero, Int.toNat_one, Int.reduceLE, Int.reduceToNat, Nat.zero_mul, Nat.one_mul, ints_len, isI_ints, ofI_ints, List.zipIdx_cons, List.zipIdx_nil, ↓SP, SQ, Gam.add, stepM, callC, argC, lendO, nmBy, nmC, likeL, likeB, plainOb, offs, exL, X, F, trP, trO, stepD, stepW, newA, SV.tr, SV.trL, fz, allP, Ob.tr, loadA, cellsA, SV.cells, binA, binI, eqOut, isSl, isPt, natOf, callee, snap, SV.refsL, SV.refs, thaw, fzAll, loA, hiA, elemOf, partsA, buildA, putCells, ↓reduceIte, reduceCtorEq, okCell, Nat.reduceAdd, Nat.reduceEqDiff, Nat.reduceSub, Nat.reduceMul, Nat.reduceLeDiff, Nat.reduceLT, Nat.reduceBEq, PV.scal, PV.scalL, SV.scal, SV.scalL, Ob.scal, PV.isCell, pure', resO]
  exact finA_val (by simp [hldV, retA, rvA, List.mapM_cons, List.mapM_nil, Option.pure_def, Option.bind_eq_bind, Option.bind_some, Option.map_some, mkE_cons, mk_nil, mkO_cons, mkO_nil, loadA, ↓reduceIte, List.take_succ_cons, List.take_zero, List.drop_zero, List.drop_succ_cons, List.length_cons, List.length_nil, Nat.reduceAdd, Nat.reduceEqDiff, Nat.reduceLeDiff, Nat.zero_add, Nat.le_refl, reduceCtorEq, SV.tr, SV.trL, nmF, rn_nil, rn_cons1, rn_cons2, List.map_cons, List.map_nil, List.all_cons, List.all_nil, plainOb, SV.refsL, SV.refs, Ob.refs, X, F, List.range_succ, List.range_zero, List.nil_append, List.cons_append, List.isEmpty_nil, decide_true, Nat.reduceLT, Bool.and_self, Bool.and_true, and_self, and_true, List.getElem?_cons_zero, List.getElem?_cons_succ, List.nodup_cons, List.nodup_nil, List.mem_cons, List.not_mem_nil, not_false_eq_true, or_false, List.append_nil, mkO, setO_mk, List.mem_singleton]) (by simp [SV.tr, SV.trL])
def a_l8Hold (f_l2After : FuncId) (f_l2Counts : FuncId) (f_l4Key : FuncId) : AFn := ⟨3, 
  .seq (.reg [⟨some 3, none, .w (.box 2 (.t 0))⟩,
    ⟨some 6, none, .d (.mv (.c (.bool false)))⟩])
  (.seq (.dreg [] [([], ⟨some 9, none, .d (.load true 2 (.t 3))⟩),
    ([], ⟨some 10, none, .d (.mv (.t 1))⟩),
    ([], ⟨some 11, none, .d (.call (.f f_l2After) [(.t 9), (.t 10), (.c (.bool true))])⟩),
    ([], ⟨some 12, none, .d (.call (.f f_l2Counts) [(.t 11)])⟩),
    ([], ⟨some 13, none, .d (.load true 2 (.t 3))⟩),
    ([], ⟨some 14, none, .d (.mv (.t 1))⟩)] [⟨some 15, none, .d (.call (.f f_l2After) [(.t 13), (.t 14), (.c (.bool false))])⟩,
    ⟨some 16, none, .d (.call (.f f_l2Counts) [(.t 15)])⟩,
    ⟨some 7, none, .d (.mv (.t 12))⟩,
    ⟨some 8, none, .d (.mv (.t 16))⟩])
  (.seq (.dreg [] [([], ⟨some 17, none, .d (.mv (.t 2))⟩),
    ([], ⟨some 18, none, .d (.mv (.t 7))⟩),
    ([], ⟨some 19, none, .d (.call (.f f_l4Key) [(.t 18)])⟩),
    ([], ⟨some 20, none, .d (.ia 1 (.t 17) (.t 19))⟩),
    ([], ⟨some 21, none, .d (.load false 1 (.t 20))⟩),
    ([], ⟨some 22, none, .d (.mv (.t 2))⟩),
    ([], ⟨some 23, none, .d (.mv (.t 8))⟩),
    ([], ⟨some 24, none, .d (.call (.f f_l4Key) [(.t 23)])⟩),
    ([], ⟨some 25, none, .d (.ia 1 (.t 22) (.t 24))⟩),
    ([], ⟨some 26, none, .d (.load false 1 (.t 25))⟩)] [⟨some 27, none, .d (.bin .arith .gtr (.t 21) (.t 26))⟩,
    ⟨some 6, none, .d (.mv (.t 27))⟩])
  (.ret))), [.tmp 6]⟩
def n_l8Hold : Nat → Option Ann := fun _ => none
abbrev k_l8Hold : List Nat := [0, 1, 2, 3, 6, 7, 8]
abbrev o_l8Hold : List Nat := [3]
def c_l8Hold : Con := pure' fun
  | [.p (.agg [.sl 1 x_, .int .i64 m]), .p (.int .i64 q), .p (.sl 1 l_)] => if isI x_ = true ∧ isI l_ = true ∧ (isSt (ofI x_) m = true ∧ (opens (ofI x_)).length ≤ 8 ∧ (ofI l_) = tabK (ntT tabB) (m + 1).toNat 9) then some (.p (.bool (hldV m q (ofI x_))), []) else none
  | _ => none
theorem s_l8Hold {P : Program} (hm : P.follows .mixedOrders = true) {Γ : Gam} (hΓ : GS P Γ) {n : FuncId} {f_l2After : FuncId} {f_l2Counts : FuncId} {f_l4Key : FuncId} (is : Is P n (a_l8Hold f_l2After f_l2Counts f_l4Key)) (h_l2After : Γ f_l2After = c_l2After) (h_l2Counts : Γ f_l2Counts = c_countsS) (h_l4Key : Γ f_l4Key = c_l4Key)  : Says P n c_l8Hold := by
  refine Says.pure fun args r fs h => ?_
  split at h
  case h_2 => cases h
  rename_i x_ m q l_
  split at h
  case isFalse => cases h
  rename_i hc
  obtain ⟨hx_, hc⟩ := hc
  obtain ⟨x, rfl⟩ := isI_out hx_
  obtain ⟨hl_, hc⟩ := hc
  obtain ⟨l, rfl⟩ := isI_out hl_
  simp only [ofI_ints, ofBo_bools, ofAs_asks, Option.some.injEq, Prod.mk.injEq] at h hc
  obtain ⟨rfl, rfl⟩ := h
  obtain ⟨hs, h8, rfl⟩ := hc
  obtain ⟨t1, t2, t3⟩ := afts_ok (q := q) (y := true) hs h8
  obtain ⟨f1, f2, f3⟩ := afts_ok (q := q) (y := false) hs h8
  have hmm := (st_out hs).2.1
  have hlen : x.length ≤ 1100000 := by have := (st_out hs).1; omega
  have h1000 := isSt_small hs
  have aT : afterL (fun i => (bitW q (i : Int) == 1) != true) m x = aftS m q true x := rfl
  have aF : afterL (fun i => (bitW q (i : Int) == 1) != false) m x = aftS m q false x := rfl
  obtain ⟨⟨_, a3⟩, a8, _⟩ := okC_out t2
  obtain ⟨⟨_, b3⟩, b8, _⟩ := okC_out f2
  obtain ⟨k0, k1⟩ := keyN_bd (p := (m + 1).toNat) t3 a8
  obtain ⟨n0, n1⟩ := keyN_bd (p := (m + 1).toNat) f3 b8
  have hkT : (keyL (cntL m (aftS m q true x))).toNat = keyN (cntL m (aftS m q true x)) := rfl
  have hkF : (keyL (cntL m (aftS m q false x))).toNat = keyN (cntL m (aftS m q false x)) := rfl
  have hgT := ints_get (l := tabK (ntT tabB) (m + 1).toNat 9) (i := keyN (cntL m (aftS m q true x))) (by rw [tabK_len]; exact k1)
  have hgF := ints_get (l := tabK (ntT tabB) (m + 1).toNat 9) (i := keyN (cntL m (aftS m q false x))) (by rw [tabK_len]; exact n1)
  have tT := (tab_nd t2).1
  have tF := (tab_nd f2).1
  rw [t3] at tT
  rw [f3] at tF
  rw [tT] at hgT
  rw [tF] at hgF
  refine is.go hm hΓ k_l8Hold o_l8Hold (by simp [a_l8Hold]) ?_
  simp only [a_l8Hold, h_l2After, c_l2After, h_l2Counts, c_countsS, h_l4Key, c_l4Key, hs, hlen, h1000, aT, aF, t1, f1, a3, a8, b3, b8, k0, n0, hkT, hkF, hgT, hgF, ints_len, isI_ints, ofI_ints, List.zipIdx_cons, List.zipIdx_nil, ↓SP, SQ, Gam.add, stepM, callC, argC, lendO, nmBy, nmC, likeL, likeB, plainOb, offs, exL, X, F, trP, trO, stepD, stepW, newA, SV.tr, SV.trL, fz, allP, Ob.tr, loadA, cellsA, SV.cells, binA, binI, eqOut, isSl, isPt, natOf, callee, snap, SV.refsL, SV.refs, thaw, fzAll, loA, hiA, elemOf, partsA, buildA, putCells, ↓reduceIte, reduceCtorEq, okCell, Nat.reduceAdd, Nat.reduceEqDiff, Nat.reduceSub, Nat.reduceMul, Nat.reduceLeDiff, Nat.reduceLT, Nat.reduceBEq, PV.scal, PV.scalL, SV.scal, SV.scalL, Ob.scal, PV.isCell, pure', resO]
  exact finA_val (by simp [hldV, retA, rvA, List.mapM_cons, List.mapM_nil, Option.pure_def, Option.bind_eq_bind, Option.bind_some, Option.map_some, mkE_cons, mk_nil, mkO_cons, mkO_nil, loadA, ↓reduceIte, List.take_succ_cons, List.take_zero, List.drop_zero, List.drop_succ_cons, List.length_cons, List.length_nil, Nat.reduceAdd, Nat.reduceEqDiff, Nat.reduceLeDiff, Nat.zero_add, Nat.le_refl, reduceCtorEq, SV.tr, SV.trL, nmF, rn_nil, rn_cons1, rn_cons2, List.map_cons, List.map_nil, List.all_cons, List.all_nil, plainOb, SV.refsL, SV.refs, Ob.refs, X, F, List.range_succ, List.range_zero, List.nil_append, List.cons_append, List.isEmpty_nil, decide_true, Nat.reduceLT, Bool.and_self, Bool.and_true, and_self, and_true, List.getElem?_cons_zero, List.getElem?_cons_succ, List.nodup_cons, List.nodup_nil, List.mem_cons, List.not_mem_nil, not_false_eq_true, or_false, List.append_nil, mkO, setO_mk, List.mem_singleton]) (by simp [SV.tr, SV.trL])
def hOK (x : List Int) (m q : Int) : Bool := isSt x m && isQ x.length q && decide ((opens x).length ≤ 8)
def a_HoldAnswer (f_areListed : FuncId) (f_opened : FuncId) (f_neederOf : FuncId) (f_bothWays : FuncId) (f_hold : FuncId) : AFn := ⟨2, 
  .seq (.reg [⟨some 2, none, .w (.box 2 (.t 0))⟩,
    ⟨some 4, none, .d (.mv (.c (.bool false)))⟩,
    ⟨some 5, none, .d (.mv (.c (.bool false)))⟩])
  (.seq (.seq (.reg [⟨some 6, none, .d (.load true 2 (.t 2))⟩,
    ⟨some 7, none, .d (.mv (.t 1))⟩,
    ⟨some 8, none, .w (.bslice 1 [.int .i64 0] [(0, (.t 7))])⟩,
    ⟨some 9, none, .d (.call (.f f_areListed) [(.t 6), (.t 8)])⟩,
    ⟨some 10, none, .d (.not (.t 9))⟩,
    ⟨some 11, none, .d (.mv (.t 10))⟩,
    ⟨some 12, some (11, false), .d (.load true 2 (.t 2))⟩,
    ⟨some 13, some (11, false), .d (.call (.f f_opened) [(.t 12)])⟩,
    ⟨some 14, some (11, false), .d (.len (.t 13))⟩,
    ⟨some 15, some (11, false), .d (.bin .arith .gtr (.t 14) (.c (.int .i64 8)))⟩,
    ⟨some 16, none, .d (.pick (.t 11) (.c (.bool true)) (.t 15))⟩])
  (.cond (.t 16) (.seq (.reg [⟨some 4, none, .d (.mv (.c (.bool false)))⟩,
     ⟨some 5, none, .d (.mv (.c (.bool false)))⟩])
   (.ret)) (.skip)))
  (.seq (.dreg [] [([], ⟨some 17, none, .d (.load true 2 (.t 2))⟩),
    ([], ⟨some 18, none, .d (.call (.f f_neederOf) [(.f f_bothWays)])⟩),
    ([], ⟨some 19, none, .d (.mv (.t 1))⟩)] [⟨some 20, none, .d (.call (.f f_hold) [(.t 17), (.t 18), (.t 19)])⟩,
    ⟨some 4, none, .d (.mv (.t 20))⟩,
    ⟨some 5, none, .d (.mv (.c (.bool true)))⟩])
  (.ret))), [.tmp 4, .tmp 5]⟩
def n_HoldAnswer : Nat → Option Ann := fun _ => none
abbrev k_HoldAnswer : List Nat := [0, 1, 2, 4, 5, 16]
abbrev o_HoldAnswer : List Nat := [2, 8]
def a_s_HoldAnswer (f_l2State : FuncId) (f_l2Question : FuncId) (f_l2Open : FuncId) (f_l4Needs : FuncId) (f_l8Hold : FuncId) : AFn := ⟨2, 
  .seq (.reg [⟨some 2, none, .w (.box 2 (.t 0))⟩,
    ⟨some 4, none, .d (.mv (.c (.bool false)))⟩,
    ⟨some 5, none, .d (.mv (.c (.bool false)))⟩])
  (.seq (.seq (.reg [⟨some 6, none, .d (.load true 2 (.t 2))⟩,
    ⟨some 7, none, .d (.call (.f f_l2State) [(.t 6)])⟩,
    ⟨some 8, none, .d (.not (.t 7))⟩,
    ⟨some 9, none, .d (.mv (.t 8))⟩,
    ⟨some 10, some (9, false), .d (.load true 2 (.t 2))⟩,
    ⟨some 11, some (9, false), .d (.mv (.t 1))⟩,
    ⟨some 12, some (9, false), .d (.call (.f f_l2Question) [(.t 10), (.t 11)])⟩,
    ⟨some 13, some (9, false), .d (.not (.t 12))⟩,
    ⟨some 14, none, .d (.pick (.t 9) (.c (.bool true)) (.t 13))⟩,
    ⟨some 15, none, .d (.mv (.t 14))⟩,
    ⟨some 16, some (15, false), .d (.load true 2 (.t 2))⟩,
    ⟨some 17, some (15, false), .d (.call (.f f_l2Open) [(.t 16)])⟩,
    ⟨some 18, some (15, false), .d (.len (.t 17))⟩,
    ⟨some 19, some (15, false), .d (.bin .arith .gtr (.t 18) (.c (.int .i64 8)))⟩,
    ⟨some 20, none, .d (.pick (.t 15) (.c (.bool true)) (.t 19))⟩])
  (.cond (.t 20) (.seq (.reg [⟨some 4, none, .d (.mv (.c (.bool false)))⟩,
     ⟨some 5, none, .d (.mv (.c (.bool false)))⟩])
   (.ret)) (.skip)))
  (.seq (.dreg [] [([], ⟨some 21, none, .d (.load true 2 (.t 2))⟩),
    ([], ⟨some 22, none, .d (.mv (.t 1))⟩),
    ([], ⟨some 23, none, .d (.fa 1 (.t 2))⟩),
    ([], ⟨some 24, none, .d (.load false 1 (.t 23))⟩),
    ([], ⟨some 25, none, .d (.bin .arith .add (.t 24) (.c (.int .i64 1)))⟩),
    ([], ⟨some 26, none, .d (.call (.f f_l4Needs) [(.t 25)])⟩)] [⟨some 27, none, .d (.call (.f f_l8Hold) [(.t 21), (.t 22), (.t 26)])⟩,
    ⟨some 4, none, .d (.mv (.t 27))⟩,
    ⟨some 5, none, .d (.mv (.c (.bool true)))⟩])
  (.ret))), [.tmp 4, .tmp 5]⟩
def n_s_HoldAnswer : Nat → Option Ann := fun _ => none
abbrev k_s_HoldAnswer : List Nat := [0, 1, 2, 4, 5, 20]
abbrev o_s_HoldAnswer : List Nat := [2]
def c_HoldAnswer : Con := pure' fun
  | [.p (.agg [.sl 1 x_, .int .i64 m]), .p (.int .i64 q)] => if isI x_ = true ∧ ((ofI x_).length ≤ 1100000) then some (.tp [.p (.bool (hOK (ofI x_) m q && hldV m q (ofI x_))), .p (.bool (hOK (ofI x_) m q))], []) else none
  | _ => none
theorem s_HoldAnswer {P : Program} (hm : P.follows .mixedOrders = true) {Γ : Gam} (hΓ : GS P Γ) {n : FuncId} {f_areListed : FuncId} {f_opened : FuncId} {f_neederOf : FuncId} {f_bothWays : FuncId} {f_hold : FuncId} (is : Is P n (a_HoldAnswer f_areListed f_opened f_neederOf f_bothWays f_hold)) (h_areListed : Γ f_areListed = c_areListed) (h_opened : Γ f_opened = c_l2Open) (h_hold : Γ f_hold = c_hold) {Γ1 : Gam} (h_neederOf : Γ f_neederOf = c_neederOf Γ1) (h_bothWays : Γ1 f_bothWays = c_bothWays) : Says P n c_HoldAnswer := by
  refine Says.pure fun args r fs h => ?_
  split at h
  case h_2 => cases h
  rename_i x_ m q
  split at h
  case isFalse => cases h
  rename_i hc
  obtain ⟨hx_, hc⟩ := hc
  obtain ⟨x, rfl⟩ := isI_out hx_
  simp only [ofI_ints, ofBo_bools, ofAs_asks, Option.some.injEq, Prod.mk.injEq] at h hc
  obtain ⟨rfl, rfl⟩ := h
  have hq1 : ints [q] = [.int .i64 q] := rfl
  have hi1 : isI [PV.int .i64 q] = true := rfl
  have hof1 : ofI [PV.int .i64 q] = [q] := rfl
  cases h1 : isL x m [q] with
  | false =>
    have hp : hOK x m q = false := by
      simp only [isL, List.length_cons, List.length_nil, List.all_cons, List.all_nil, Bool.and_true] at h1
      simp only [hOK]
      cases h0 : isSt x m && isQ x.length q with
      | false => rfl
      | true => simp only [Bool.and_eq_true] at h0; simp [h0.1, h0.2] at h1
    refine is.go hm hΓ k_HoldAnswer o_HoldAnswer (by simp [a_HoldAnswer]) ?_
    simp only [a_HoldAnswer, h_areListed, c_areListed, h_opened, c_l2Open, h_hold, c_hold, hc, h1, hp, hi1, hof1, ints_len, List.length_cons, List.length_nil, Nat.reduceLeDiff, Bool.false_and, Bool.false_eq_true, List.zipIdx_cons, List.zipIdx_nil, ↓SP, SQ, Gam.add, stepM, callC, argC, lendO, nmBy, nmC, likeL, likeB, plainOb, offs, exL, X, F, trP, trO, stepD, stepW, newA, SV.tr, SV.trL, fz, allP, Ob.tr, loadA, cellsA, SV.cells, binA, binI, eqOut, isSl, isPt, natOf, callee, snap, SV.refsL, SV.refs, thaw, fzAll, loA, hiA, elemOf, partsA, buildA, putCells, ↓reduceIte, reduceCtorEq, okCell, Nat.reduceAdd, Nat.reduceEqDiff, Nat.reduceSub, Nat.reduceMul, Nat.reduceLeDiff, Nat.reduceLT, Nat.reduceBEq, PV.scal, PV.scalL, SV.scal, SV.scalL, Ob.scal, PV.isCell, pure', resO]
    exact finA_val (by simp [retA, rvA, List.mapM_cons, List.mapM_nil, Option.pure_def, Option.bind_eq_bind, Option.bind_some, Option.map_some, mkE_cons, mk_nil, mkO_cons, mkO_nil, loadA, ↓reduceIte, List.take_succ_cons, List.take_zero, List.drop_zero, List.drop_succ_cons, List.length_cons, List.length_nil, Nat.reduceAdd, Nat.reduceEqDiff, Nat.reduceLeDiff, Nat.zero_add, Nat.le_refl, reduceCtorEq, SV.tr, SV.trL, nmF, rn_nil, rn_cons1, rn_cons2, List.map_cons, List.map_nil, List.all_cons, List.all_nil, plainOb, SV.refsL, SV.refs, Ob.refs, X, F, List.range_succ, List.range_zero, List.nil_append, List.cons_append, List.isEmpty_nil, decide_true, Nat.reduceLT, Bool.and_self, Bool.and_true, and_self, and_true, List.getElem?_cons_zero, List.getElem?_cons_succ, List.nodup_cons, List.nodup_nil, List.mem_cons, List.not_mem_nil, not_false_eq_true, or_false, List.append_nil, mkO, setO_mk, List.mem_singleton]) (by simp [SV.tr, SV.trL])
  | true =>
    have h1' : isSt x m = true ∧ isQ x.length q = true := by
      simp only [isL, List.all_cons, List.all_nil, Bool.and_eq_true, Bool.and_true] at h1
      exact ⟨h1.1.1, h1.2⟩
    by_cases h3 : (opens x).length ≤ 8
    · have h3' : ¬ ((opens x).length : Int) > 8 := by omega
      have hp : hOK x m q = true := by simp only [hOK, h1'.1, h1'.2, dec_t h3]; rfl
      have hne := neederOf_both h_bothWays
      have hst := h1'.1
      refine is.go hm hΓ k_HoldAnswer o_HoldAnswer (by simp [a_HoldAnswer]) ?_
      simp only [a_HoldAnswer, h_areListed, c_areListed, h_opened, c_l2Open, h_hold, c_hold, hc, h1, hst, h3, h3', hp, hi1, hof1, h_neederOf, hne, ints_len, List.length_cons, List.length_nil, Nat.reduceLeDiff, isI_ints, ofI_ints, Bool.true_and, List.zipIdx_cons, List.zipIdx_nil, ↓SP, SQ, Gam.add, stepM, callC, argC, lendO, nmBy, nmC, likeL, likeB, plainOb, offs, exL, X, F, trP, trO, stepD, stepW, newA, SV.tr, SV.trL, fz, allP, Ob.tr, loadA, cellsA, SV.cells, binA, binI, eqOut, isSl, isPt, natOf, callee, snap, SV.refsL, SV.refs, thaw, fzAll, loA, hiA, elemOf, partsA, buildA, putCells, ↓reduceIte, reduceCtorEq, okCell, Nat.reduceAdd, Nat.reduceEqDiff, Nat.reduceSub, Nat.reduceMul, Nat.reduceLeDiff, Nat.reduceLT, Nat.reduceBEq, PV.scal, PV.scalL, SV.scal, SV.scalL, Ob.scal, PV.isCell, pure', resO]
      exact finA_val (by simp [retA, rvA, List.mapM_cons, List.mapM_nil, Option.pure_def, Option.bind_eq_bind, Option.bind_some, Option.map_some, mkE_cons, mk_nil, mkO_cons, mkO_nil, loadA, ↓reduceIte, List.take_succ_cons, List.take_zero, List.drop_zero, List.drop_succ_cons, List.length_cons, List.length_nil, Nat.reduceAdd, Nat.reduceEqDiff, Nat.reduceLeDiff, Nat.zero_add, Nat.le_refl, reduceCtorEq, SV.tr, SV.trL, nmF, rn_nil, rn_cons1, rn_cons2, List.map_cons, List.map_nil, List.all_cons, List.all_nil, plainOb, SV.refsL, SV.refs, Ob.refs, X, F, List.range_succ, List.range_zero, List.nil_append, List.cons_append, List.isEmpty_nil, decide_true, Nat.reduceLT, Bool.and_self, Bool.and_true, and_self, and_true, List.getElem?_cons_zero, List.getElem?_cons_succ, List.nodup_cons, List.nodup_nil, List.mem_cons, List.not_mem_nil, not_false_eq_true, or_false, List.append_nil, mkO, setO_mk, List.mem_singleton]) (by simp [SV.tr, SV.trL])
    · have h3' : ((opens x).length : Int) > 8 := by omega
      have hp : hOK x m q = false := by simp only [hOK, dec_f h3, Bool.and_false]
      refine is.go hm hΓ k_HoldAnswer o_HoldAnswer (by simp [a_HoldAnswer]) ?_
      simp only [a_HoldAnswer, h_areListed, c_areListed, h_opened, c_l2Open, h_hold, c_hold, hc, h1, h3', hp, hi1, hof1, ints_len, List.length_cons, List.length_nil, Nat.reduceLeDiff, Bool.false_and, Bool.false_eq_true, List.zipIdx_cons, List.zipIdx_nil, ↓SP, SQ, Gam.add, stepM, callC, argC, lendO, nmBy, nmC, likeL, likeB, plainOb, offs, exL, X, F, trP, trO, stepD, stepW, newA, SV.tr, SV.trL, fz, allP, Ob.tr, loadA, cellsA, SV.cells, binA, binI, eqOut, isSl, isPt, natOf, callee, snap, SV.refsL, SV.refs, thaw, fzAll, loA, hiA, elemOf, partsA, buildA, putCells, ↓reduceIte, reduceCtorEq, okCell, Nat.reduceAdd, Nat.reduceEqDiff, Nat.reduceSub, Nat.reduceMul, Nat.reduceLeDiff, Nat.reduceLT, Nat.reduceBEq, PV.scal, PV.scalL, SV.scal, SV.scalL, Ob.scal, PV.isCell, pure', resO]
      exact finA_val (by simp [retA, rvA, List.mapM_cons, List.mapM_nil, Option.pure_def, Option.bind_eq_bind, Option.bind_some, Option.map_some, mkE_cons, mk_nil, mkO_cons, mkO_nil, loadA, ↓reduceIte, List.take_succ_cons, List.take_zero, List.drop_zero, List.drop_succ_cons, List.length_cons, List.length_nil, Nat.reduceAdd, Nat.reduceEqDiff, Nat.reduceLeDiff, Nat.zero_add, Nat.le_refl, reduceCtorEq, SV.tr, SV.trL, nmF, rn_nil, rn_cons1, rn_cons2, List.map_cons, List.map_nil, List.all_cons, List.all_nil, plainOb, SV.refsL, SV.refs, Ob.refs, X, F, List.range_succ, List.range_zero, List.nil_append, List.cons_append, List.isEmpty_nil, decide_true, Nat.reduceLT, Bool.and_self, Bool.and_true, and_self, and_true, List.getElem?_cons_zero, List.getElem?_cons_succ, List.nodup_cons, List.nodup_nil, List.mem_cons, List.not_mem_nil, not_false_eq_true, or_false, List.append_nil, mkO, setO_mk, List.mem_singleton]) (by simp [SV.tr, SV.trL])
theorem s_s_HoldAnswer {P : Program} (hm : P.follows .mixedOrders = true) {Γ : Gam} (hΓ : GS P Γ) {n : FuncId} {f_l2State : FuncId} {f_l2Question : FuncId} {f_l2Open : FuncId} {f_l4Needs : FuncId} {f_l8Hold : FuncId} (is : Is P n (a_s_HoldAnswer f_l2State f_l2Question f_l2Open f_l4Needs f_l8Hold)) (h_l2State : Γ f_l2State = c_IsState) (h_l2Question : Γ f_l2Question = c_l2Question) (h_l2Open : Γ f_l2Open = c_l2Open) (h_l4Needs : Γ f_l4Needs = c_l4Needs) (h_l8Hold : Γ f_l8Hold = c_l8Hold)  : Says P n c_HoldAnswer := by
  refine Says.pure fun args r fs h => ?_
  split at h
  case h_2 => cases h
  rename_i x_ m q
  split at h
  case isFalse => cases h
  rename_i hc
  obtain ⟨hx_, hc⟩ := hc
  obtain ⟨x, rfl⟩ := isI_out hx_
  simp only [ofI_ints, ofBo_bools, ofAs_asks, Option.some.injEq, Prod.mk.injEq] at h hc
  obtain ⟨rfl, rfl⟩ := h
  cases h1 : isSt x m with
  | false =>
    have hp : hOK x m q = false := by simp only [hOK, h1, Bool.false_and]
    refine is.go hm hΓ k_s_HoldAnswer o_s_HoldAnswer (by simp [a_s_HoldAnswer]) ?_
    simp only [a_s_HoldAnswer, h_l2State, c_IsState, h_l2Question, c_l2Question, h_l2Open, c_l2Open, h_l4Needs, c_l4Needs, h_l8Hold, c_l8Hold, hc, h1, hp, Bool.false_and, Bool.false_eq_true, List.zipIdx_cons, List.zipIdx_nil, ↓SP, SQ, Gam.add, stepM, callC, argC, lendO, nmBy, nmC, likeL, likeB, plainOb, offs, exL, X, F, trP, trO, stepD, stepW, newA, SV.tr, SV.trL, fz, allP, Ob.tr, loadA, cellsA, SV.cells, binA, binI, eqOut, isSl, isPt, natOf, callee, snap, SV.refsL, SV.refs, thaw, fzAll, loA, hiA, elemOf, partsA, buildA, putCells, ↓reduceIte, reduceCtorEq, okCell, Nat.reduceAdd, Nat.reduceEqDiff, Nat.reduceSub, Nat.reduceMul, Nat.reduceLeDiff, Nat.reduceLT, Nat.reduceBEq, PV.scal, PV.scalL, SV.scal, SV.scalL, Ob.scal, PV.isCell, pure', resO]
    exact finA_val (by simp [retA, rvA, List.mapM_cons, List.mapM_nil, Option.pure_def, Option.bind_eq_bind, Option.bind_some, Option.map_some, mkE_cons, mk_nil, mkO_cons, mkO_nil, loadA, ↓reduceIte, List.take_succ_cons, List.take_zero, List.drop_zero, List.drop_succ_cons, List.length_cons, List.length_nil, Nat.reduceAdd, Nat.reduceEqDiff, Nat.reduceLeDiff, Nat.zero_add, Nat.le_refl, reduceCtorEq, SV.tr, SV.trL, nmF, rn_nil, rn_cons1, rn_cons2, List.map_cons, List.map_nil, List.all_cons, List.all_nil, plainOb, SV.refsL, SV.refs, Ob.refs, X, F, List.range_succ, List.range_zero, List.nil_append, List.cons_append, List.isEmpty_nil, decide_true, Nat.reduceLT, Bool.and_self, Bool.and_true, and_self, and_true, List.getElem?_cons_zero, List.getElem?_cons_succ, List.nodup_cons, List.nodup_nil, List.mem_cons, List.not_mem_nil, not_false_eq_true, or_false, List.append_nil, mkO, setO_mk, List.mem_singleton]) (by simp [SV.tr, SV.trL])
  | true =>
    cases h2 : isQ x.length q with
    | false =>
      have hp : hOK x m q = false := by simp only [hOK, h2, Bool.and_false, Bool.false_and]
      refine is.go hm hΓ k_s_HoldAnswer o_s_HoldAnswer (by simp [a_s_HoldAnswer]) ?_
      simp only [a_s_HoldAnswer, h_l2State, c_IsState, h_l2Question, c_l2Question, h_l2Open, c_l2Open, h_l4Needs, c_l4Needs, h_l8Hold, c_l8Hold, hc, h1, h2, hp, ints_len, Bool.false_and, Bool.false_eq_true, List.zipIdx_cons, List.zipIdx_nil, ↓SP, SQ, Gam.add, stepM, callC, argC, lendO, nmBy, nmC, likeL, likeB, plainOb, offs, exL, X, F, trP, trO, stepD, stepW, newA, SV.tr, SV.trL, fz, allP, Ob.tr, loadA, cellsA, SV.cells, binA, binI, eqOut, isSl, isPt, natOf, callee, snap, SV.refsL, SV.refs, thaw, fzAll, loA, hiA, elemOf, partsA, buildA, putCells, ↓reduceIte, reduceCtorEq, okCell, Nat.reduceAdd, Nat.reduceEqDiff, Nat.reduceSub, Nat.reduceMul, Nat.reduceLeDiff, Nat.reduceLT, Nat.reduceBEq, PV.scal, PV.scalL, SV.scal, SV.scalL, Ob.scal, PV.isCell, pure', resO]
      exact finA_val (by simp [retA, rvA, List.mapM_cons, List.mapM_nil, Option.pure_def, Option.bind_eq_bind, Option.bind_some, Option.map_some, mkE_cons, mk_nil, mkO_cons, mkO_nil, loadA, ↓reduceIte, List.take_succ_cons, List.take_zero, List.drop_zero, List.drop_succ_cons, List.length_cons, List.length_nil, Nat.reduceAdd, Nat.reduceEqDiff, Nat.reduceLeDiff, Nat.zero_add, Nat.le_refl, reduceCtorEq, SV.tr, SV.trL, nmF, rn_nil, rn_cons1, rn_cons2, List.map_cons, List.map_nil, List.all_cons, List.all_nil, plainOb, SV.refsL, SV.refs, Ob.refs, X, F, List.range_succ, List.range_zero, List.nil_append, List.cons_append, List.isEmpty_nil, decide_true, Nat.reduceLT, Bool.and_self, Bool.and_true, and_self, and_true, List.getElem?_cons_zero, List.getElem?_cons_succ, List.nodup_cons, List.nodup_nil, List.mem_cons, List.not_mem_nil, not_false_eq_true, or_false, List.append_nil, mkO, setO_mk, List.mem_singleton]) (by simp [SV.tr, SV.trL])
    | true =>
      by_cases h3 : (opens x).length ≤ 8
      · have h3' : ¬ ((opens x).length : Int) > 8 := by omega
        have hp : hOK x m q = true := by simp only [hOK, h1, h2, dec_t h3]; rfl
        have hmm := (st_out h1).2.1
        have hwm : IntKind.i64.wrap (m + 1) = m + 1 := wrap64 (by omega) (by omega)
        have m1 : (1 : Int) ≤ m + 1 := by omega
        have m3 : m + 1 ≤ 3 := by omega
        refine is.go hm hΓ k_s_HoldAnswer o_s_HoldAnswer (by simp [a_s_HoldAnswer]) ?_
        simp only [a_s_HoldAnswer, h_l2State, c_IsState, h_l2Question, c_l2Question, h_l2Open, c_l2Open, h_l4Needs, c_l4Needs, h_l8Hold, c_l8Hold, hc, h1, h2, h3, h3', hp, hwm, m1, m3, ints_len, isI_ints, ofI_ints, Bool.true_and, List.zipIdx_cons, List.zipIdx_nil, ↓SP, SQ, Gam.add, stepM, callC, argC, lendO, nmBy, nmC, likeL, likeB, plainOb, offs, exL, X, F, trP, trO, stepD, stepW, newA, SV.tr, SV.trL, fz, allP, Ob.tr, loadA, cellsA, SV.cells, binA, binI, eqOut, isSl, isPt, natOf, callee, snap, SV.refsL, SV.refs, thaw, fzAll, loA, hiA, elemOf, partsA, buildA, putCells, ↓reduceIte, reduceCtorEq, okCell, Nat.reduceAdd, Nat.reduceEqDiff, Nat.reduceSub, Nat.reduceMul, Nat.reduceLeDiff, Nat.reduceLT, Nat.reduceBEq, PV.scal, PV.scalL, SV.scal, SV.scalL, Ob.scal, PV.isCell, pure', resO]
        exact finA_val (by simp [retA, rvA, List.mapM_cons, List.mapM_nil, Option.pure_def, Option.bind_eq_bind, Option.bind_some, Option.map_some, mkE_cons, mk_nil, mkO_cons, mkO_nil, loadA, ↓reduceIte, List.take_succ_cons, List.take_zero, List.drop_zero, List.drop_succ_cons, List.length_cons, List.length_nil, Nat.reduceAdd, Nat.reduceEqDiff, Nat.reduceLeDiff, Nat.zero_add, Nat.le_refl, reduceCtorEq, SV.tr, SV.trL, nmF, rn_nil, rn_cons1, rn_cons2, List.map_cons, List.map_nil, List.all_cons, List.all_nil, plainOb, SV.refsL, SV.refs, Ob.refs, X, F, List.range_succ, List.range_zero, List.nil_append, List.cons_append, List.isEmpty_nil, decide_true, Nat.reduceLT, Bool.and_self, Bool.and_true, and_self, and_true, List.getElem?_cons_zero, List.getElem?_cons_succ, List.nodup_cons, List.nodup_nil, List.mem_cons, List.not_mem_nil, not_false_eq_true, or_false, List.append_nil, mkO, setO_mk, List.mem_singleton]) (by simp [SV.tr, SV.trL])
      · have h3' : ((opens x).length : Int) > 8 := by omega
        have hp : hOK x m q = false := by simp only [hOK, dec_f h3, Bool.and_false]
        refine is.go hm hΓ k_s_HoldAnswer o_s_HoldAnswer (by simp [a_s_HoldAnswer]) ?_
        simp only [a_s_HoldAnswer, h_l2State, c_IsState, h_l2Question, c_l2Question, h_l2Open, c_l2Open, h_l4Needs, c_l4Needs, h_l8Hold, c_l8Hold, hc, h1, h2, h3', hp, ints_len, Bool.false_and, Bool.false_eq_true, List.zipIdx_cons, List.zipIdx_nil, ↓SP, SQ, Gam.add, stepM, callC, argC, lendO, nmBy, nmC, likeL, likeB, plainOb, offs, exL, X, F, trP, trO, stepD, stepW, newA, SV.tr, SV.trL, fz, allP, Ob.tr, loadA, cellsA, SV.cells, binA, binI, eqOut, isSl, isPt, natOf, callee, snap, SV.refsL, SV.refs, thaw, fzAll, loA, hiA, elemOf, partsA, buildA, putCells, ↓reduceIte, reduceCtorEq, okCell, Nat.reduceAdd, Nat.reduceEqDiff, Nat.reduceSub, Nat.reduceMul, Nat.reduceLeDiff, Nat.reduceLT, Nat.reduceBEq, PV.scal, PV.scalL, SV.scal, SV.scalL, Ob.scal, PV.isCell, pure', resO]
        exact finA_val (by simp [retA, rvA, List.mapM_cons, List.mapM_nil, Option.pure_def, Option.bind_eq_bind, Option.bind_some, Option.map_some, mkE_cons, mk_nil, mkO_cons, mkO_nil, loadA, ↓reduceIte, List.take_succ_cons, List.take_zero, List.drop_zero, List.drop_succ_cons, List.length_cons, List.length_nil, Nat.reduceAdd, Nat.reduceEqDiff, Nat.reduceLeDiff, Nat.zero_add, Nat.le_refl, reduceCtorEq, SV.tr, SV.trL, nmF, rn_nil, rn_cons1, rn_cons2, List.map_cons, List.map_nil, List.all_cons, List.all_nil, plainOb, SV.refsL, SV.refs, Ob.refs, X, F, List.range_succ, List.range_zero, List.nil_append, List.cons_append, List.isEmpty_nil, decide_true, Nat.reduceLT, Bool.and_self, Bool.and_true, and_self, and_true, List.getElem?_cons_zero, List.getElem?_cons_succ, List.nodup_cons, List.nodup_nil, List.mem_cons, List.not_mem_nil, not_false_eq_true, or_false, List.append_nil, mkO, setO_mk, List.mem_singleton]) (by simp [SV.tr, SV.trL])
def a_x_HoldAnswer (f_szState : FuncId) (f_toState : FuncId) (f_s_HoldAnswer : FuncId) (f_HoldAnswer : FuncId) (f_eqState : FuncId) : AFn := ⟨2, 
  .seq (.reg [⟨some 2, none, .w (.box 2 (.t 0))⟩,
    ⟨some 4, none, .d (.mv (.c (.bool false)))⟩])
  (.seq (.reg [⟨some 5, none, .d (.mv (.c (.int .i64 1048576)))⟩])
  (.seq (.reg [⟨some 11, none, .d (.load true 2 (.t 2))⟩,
    ⟨some 12, none, .d (.mv (.t 5))⟩,
    ⟨some 13, none, .d (.call (.f f_szState) [(.t 11), (.t 12)])⟩,
    ⟨some 5, none, .d (.mv (.t 13))⟩])
  (.seq (.seq (.reg [⟨some 14, none, .d (.mv (.t 5))⟩,
    ⟨some 15, none, .d (.bin .arith .lss (.t 14) (.c (.int .i64 0)))⟩])
  (.cond (.t 15) (.seq (.reg [⟨some 4, none, .d (.mv (.c (.bool true)))⟩])
   (.ret)) (.skip)))
  (.seq (.reg [⟨some 17, none, .d (.load true 2 (.t 2))⟩,
    ⟨some 18, none, .d (.call (.f f_toState) [(.t 17)])⟩,
    ⟨some 19, none, .d (.mv (.t 1))⟩,
    ⟨some 20, none, .d (.call (.f f_s_HoldAnswer) [(.t 18), (.t 19)])⟩,
    ⟨some 16, none, .d (.mv (.t 20))⟩,
    ⟨some 21, none, .d (.extract (.t 16) 0)⟩,
    ⟨some 22, none, .d (.extract (.t 16) 1)⟩,
    ⟨some 6, none, .d (.mv (.t 21))⟩,
    ⟨some 7, none, .d (.mv (.t 22))⟩])
  (.seq (.reg [⟨some 23, none, .d (.load true 2 (.t 2))⟩,
    ⟨some 24, none, .d (.call (.f f_toState) [(.t 23)])⟩,
    ⟨some 8, none, .w (.alloc [.nilsl, .int .i64 0])⟩,
    ⟨none, none, .w (.store 2 (.t 8) (.t 24))⟩])
  (.seq (.reg [⟨some 26, none, .d (.load true 2 (.t 8))⟩,
    ⟨some 27, none, .d (.mv (.t 1))⟩,
    ⟨some 28, none, .d (.call (.f f_HoldAnswer) [(.t 26), (.t 27)])⟩,
    ⟨some 25, none, .d (.mv (.t 28))⟩,
    ⟨some 29, none, .d (.extract (.t 25) 0)⟩,
    ⟨some 30, none, .d (.extract (.t 25) 1)⟩,
    ⟨some 9, none, .d (.mv (.t 29))⟩,
    ⟨some 10, none, .d (.mv (.t 30))⟩])
  (.seq (.seq (.reg [⟨some 31, none, .d (.mv (.t 9))⟩,
    ⟨some 32, none, .d (.mv (.t 6))⟩,
    ⟨some 33, none, .d (.bin .bool .neq (.t 31) (.t 32))⟩,
    ⟨some 34, none, .d (.mv (.t 33))⟩,
    ⟨some 35, some (34, false), .d (.mv (.t 10))⟩,
    ⟨some 36, some (34, false), .d (.mv (.t 7))⟩,
    ⟨some 37, some (34, false), .d (.bin .bool .neq (.t 35) (.t 36))⟩,
    ⟨some 38, none, .d (.pick (.t 34) (.c (.bool true)) (.t 37))⟩])
  (.cond (.t 38) (.seq (.reg [⟨some 4, none, .d (.mv (.c (.bool false)))⟩])
   (.ret)) (.skip)))
  (.seq (.seq (.dreg [] [([], ⟨some 39, none, .d (.load true 2 (.t 8))⟩),
    ([], ⟨some 40, none, .d (.load true 2 (.t 2))⟩),
    ([], ⟨some 41, none, .d (.call (.f f_toState) [(.t 40)])⟩)] [⟨some 42, none, .d (.call (.f f_eqState) [(.t 39), (.t 41)])⟩,
    ⟨some 43, none, .d (.not (.t 42))⟩])
  (.cond (.t 43) (.seq (.reg [⟨some 4, none, .d (.mv (.c (.bool false)))⟩])
   (.ret)) (.skip)))
  (.seq (.reg [⟨some 4, none, .d (.mv (.c (.bool true)))⟩])
  (.ret)))))))))), [.tmp 4]⟩
def n_x_HoldAnswer : Nat → Option Ann := fun _ => none
abbrev k_x_HoldAnswer : List Nat := [0, 1, 2, 4, 5, 6, 7, 8, 9, 10, 15, 38, 43]
abbrev o_x_HoldAnswer : List Nat := [2, 8]
def c_x_HoldAnswer : Con := pure' fun
  | [.p (.agg [v, .int .i64 m]), .p (.int .i64 q)] => match slI v with
    | some x => if x.length ≤ 9223372036854775807 then some (.p (.bool true), []) else none
    | none => none
  | _ => none
set_option maxRecDepth 100000 in
theorem s_x_HoldAnswer {P : Program} (hm : P.follows .mixedOrders = true) {Γ : Gam} (hΓ : GS P Γ) {n : FuncId} {f_szState : FuncId} {f_toState : FuncId} {f_s_HoldAnswer : FuncId} {f_HoldAnswer : FuncId} {f_eqState : FuncId} (is : Is P n (a_x_HoldAnswer f_szState f_toState f_s_HoldAnswer f_HoldAnswer f_eqState)) (h_szState : Γ f_szState = c_szState) (h_toState : Γ f_toState = c_toState) (h_s_HoldAnswer : Γ f_s_HoldAnswer = c_HoldAnswer) (h_HoldAnswer : Γ f_HoldAnswer = c_HoldAnswer) (h_eqState : Γ f_eqState = c_eqState)  : Says P n c_x_HoldAnswer := by
  refine Says.pure fun args r fs h => ?_
  split at h
  case h_2 => cases h
  rename_i v m q
  split at h
  case h_2 => cases h
  rename_i x hx
  split at h
  case isFalse => cases h
  rename_i hc
  simp only [Option.some.injEq, Prod.mk.injEq] at h
  obtain ⟨rfl, rfl⟩ := h
  have hlp := slI_lenP hx
  by_cases hk : (1048576 : Int) - (x.length : Int) < 0
  · refine is.go hm hΓ k_x_HoldAnswer o_x_HoldAnswer (by simp [a_x_HoldAnswer]) ?_
    simp only [a_x_HoldAnswer, h_szState, c_szState, h_toState, c_toState, h_s_HoldAnswer, c_HoldAnswer, h_HoldAnswer, c_HoldAnswer, h_eqState, c_eqState, hlp, hc, hk, Int.reduceLE, Int.reduceNeg, Int.reduceLT, List.zipIdx_cons, List.zipIdx_nil, ↓SP, SQ, Gam.add, stepM, callC, argC, lendO, nmBy, nmC, likeL, likeB, plainOb, offs, exL, X, F, trP, trO, stepD, stepW, newA, SV.tr, SV.trL, fz, allP, Ob.tr, loadA, cellsA, SV.cells, binA, binI, eqOut, isSl, isPt, natOf, callee, snap, SV.refsL, SV.refs, thaw, fzAll, loA, hiA, elemOf, partsA, buildA, putCells, ↓reduceIte, reduceCtorEq, okCell, Nat.reduceAdd, Nat.reduceEqDiff, Nat.reduceSub, Nat.reduceMul, Nat.reduceLeDiff, Nat.reduceLT, Nat.reduceBEq, PV.scal, PV.scalL, SV.scal, SV.scalL, Ob.scal, PV.isCell, pure', resO]
    exact finA_val (by simp [retA, rvA, List.mapM_cons, List.mapM_nil, Option.pure_def, Option.bind_eq_bind, Option.bind_some, Option.map_some, mkE_cons, mk_nil, mkO_cons, mkO_nil, loadA, ↓reduceIte, List.take_succ_cons, List.take_zero, List.drop_zero, List.drop_succ_cons, List.length_cons, List.length_nil, Nat.reduceAdd, Nat.reduceEqDiff, Nat.reduceLeDiff, Nat.zero_add, Nat.le_refl, reduceCtorEq, SV.tr, SV.trL, nmF, rn_nil, rn_cons1, rn_cons2, List.map_cons, List.map_nil, List.all_cons, List.all_nil, plainOb, SV.refsL, SV.refs, Ob.refs, X, F, List.range_succ, List.range_zero, List.nil_append, List.cons_append, List.isEmpty_nil, decide_true, Nat.reduceLT, Bool.and_self, Bool.and_true, and_self, and_true, List.getElem?_cons_zero, List.getElem?_cons_succ, List.nodup_cons, List.nodup_nil, List.mem_cons, List.not_mem_nil, not_false_eq_true, or_false, List.append_nil, mkO, setO_mk, List.mem_singleton]) (by simp [SV.tr, SV.trL])
  · have hlen : x.length ≤ 1048576 := by omega
    have hlen2 : x.length ≤ 1100000 := by omega
    generalize hg1 : (hOK x m q && hldV m q x) = v1 at *
    generalize hg2 : hOK x m q = v2 at *
    refine is.go hm hΓ k_x_HoldAnswer o_x_HoldAnswer (by simp [a_x_HoldAnswer]) ?_
    simp only [a_x_HoldAnswer, h_szState, c_szState, h_toState, c_toState, h_s_HoldAnswer, c_HoldAnswer, h_HoldAnswer, c_HoldAnswer, h_eqState, c_eqState, hx, hlp, hc, hk, hlen, hlen2, hg1, hg2, slI_sl, ints_len, beq_self_eq_true, Bool.not_true, Int.reduceLE, Int.reduceNeg, Int.reduceLT, bne_self_eq_false, List.zipIdx_cons, List.zipIdx_nil, ↓SP, SQ, Gam.add, stepM, callC, argC, lendO, nmBy, nmC, likeL, likeB, plainOb, offs, exL, X, F, trP, trO, stepD, stepW, newA, SV.tr, SV.trL, fz, allP, Ob.tr, loadA, cellsA, SV.cells, binA, binI, eqOut, isSl, isPt, natOf, callee, snap, SV.refsL, SV.refs, thaw, fzAll, loA, hiA, elemOf, partsA, buildA, putCells, ↓reduceIte, reduceCtorEq, okCell, Nat.reduceAdd, Nat.reduceEqDiff, Nat.reduceSub, Nat.reduceMul, Nat.reduceLeDiff, Nat.reduceLT, Nat.reduceBEq, PV.scal, PV.scalL, SV.scal, SV.scalL, Ob.scal, PV.isCell, pure', resO]
    exact finA_val (by simp [retA, rvA, List.mapM_cons, List.mapM_nil, Option.pure_def, Option.bind_eq_bind, Option.bind_some, Option.map_some, mkE_cons, mk_nil, mkO_cons, mkO_nil, loadA, ↓reduceIte, List.take_succ_cons, List.take_zero, List.drop_zero, List.drop_succ_cons, List.length_cons, List.length_nil, Nat.reduceAdd, Nat.reduceEqDiff, Nat.reduceLeDiff, Nat.zero_add, Nat.le_refl, reduceCtorEq, SV.tr, SV.trL, nmF, rn_nil, rn_cons1, rn_cons2, List.map_cons, List.map_nil, List.all_cons, List.all_nil, plainOb, SV.refsL, SV.refs, Ob.refs, X, F, List.range_succ, List.range_zero, List.nil_append, List.cons_append, List.isEmpty_nil, decide_true, Nat.reduceLT, Bool.and_self, Bool.and_true, and_self, and_true, List.getElem?_cons_zero, List.getElem?_cons_succ, List.nodup_cons, List.nodup_nil, List.mem_cons, List.not_mem_nil, not_false_eq_true, or_false, List.append_nil, mkO, setO_mk, List.mem_singleton]) (by simp [SV.tr, SV.trL])
end Go.Proofs.Ytihpfhdkjlphhaa.Pam
