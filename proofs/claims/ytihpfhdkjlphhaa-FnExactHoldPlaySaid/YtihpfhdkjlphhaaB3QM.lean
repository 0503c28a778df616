/- A part of the proof that stands in this folder: a small machine whose steps are shown to be the steps of the model, or walks of functions by it. No condition of its own. -/
import Derived.Test.YtihpfhdkjlphhaaB3NN
set_option linter.unusedVariables false
set_option linter.unusedSimpArgs false
namespace Go.Proofs.Ytihpfhdkjlphhaa.Pam
open Go
/-- Behind the first i questions: the state, the answers. -/
def hpN (m : Int) (x l : List Int) : Nat → List Int × List Bool
  | 0 => (x, [])
  | i + 1 => (aftS m (l.getD i 0) (hldV m (l.getD i 0) (hpN m x l i).1) (hpN m x l i).1, (hpN m x l i).2 ++ [hldV m (l.getD i 0) (hpN m x l i).1])
theorem hpN_ok {m : Int} {x l : List Int} (h : isSt x m = true) (h8 : (opens x).length ≤ 8) : ∀ i, isSt (hpN m x l i).1 m = true ∧ (opens (hpN m x l i).1).length ≤ 8 ∧ (hpN m x l i).2.length = i
  | 0 => ⟨h, h8, rfl⟩
  | i + 1 => by
    obtain ⟨h1, h2, h3⟩ := hpN_ok (l := l) h h8 i
    obtain ⟨g1, g2⟩ := afterL_st (f := fun j => (bitW (l.getD i 0) (j : Int) == 1) != hldV m (l.getD i 0) (hpN m x l i).1) h1
    exact ⟨g1, Nat.le_trans g2 h2, by simp [hpN, h3]⟩
def hpOk (x : List Int) (m : Int) (l : List Int) : Bool := isL x m l && decide ((opens x).length ≤ 8)
def a_HoldPlay (f_areListed : FuncId) (f_opened : FuncId) (f_neederOf : FuncId) (f_bothWays : FuncId) (f_after : FuncId) (f_AnswerList1 : FuncId) (f_hold : FuncId) (f_answered : FuncId) : AFn := ⟨2, 
  .seq (.reg [⟨some 2, none, .w (.box 2 (.t 0))⟩,
    ⟨some 4, none, .d (.mv (.c (.nilsl)))⟩,
    ⟨some 5, none, .w (.alloc [.nilsl, .int .i64 0])⟩,
    ⟨some 6, none, .d (.mv (.c (.bool false)))⟩])
  (.seq (.seq (.reg [⟨some 13, none, .d (.load true 2 (.t 2))⟩,
    ⟨some 14, none, .d (.mv (.t 1))⟩,
    ⟨some 15, none, .d (.call (.f f_areListed) [(.t 13), (.t 14)])⟩,
    ⟨some 16, none, .d (.not (.t 15))⟩,
    ⟨some 17, none, .d (.mv (.t 16))⟩,
    ⟨some 18, some (17, false), .d (.load true 2 (.t 2))⟩,
    ⟨some 19, some (17, false), .d (.call (.f f_opened) [(.t 18)])⟩,
    ⟨some 20, some (17, false), .d (.len (.t 19))⟩,
    ⟨some 21, some (17, false), .d (.bin .arith .gtr (.t 20) (.c (.int .i64 8)))⟩,
    ⟨some 22, none, .d (.pick (.t 17) (.c (.bool true)) (.t 21))⟩])
  (.cond (.t 22) (.seq (.reg [⟨some 23, none, .d (.build [.nilsl, .int .i64 0] [])⟩,
     ⟨some 4, none, .d (.mv (.c (.nilsl)))⟩,
     ⟨none, none, .w (.store 2 (.t 5) (.t 23))⟩,
     ⟨some 6, none, .d (.mv (.c (.bool false)))⟩])
   (.ret)) (.skip)))
  (.seq (.reg [⟨some 24, none, .d (.call (.f f_neederOf) [(.f f_bothWays)])⟩,
    ⟨some 25, none, .w (.bslice 1 [] [])⟩,
    ⟨some 7, none, .w (.alloc [.nilfn, .nilmap])⟩,
    ⟨none, none, .w (.store 2 (.t 7) (.t 24))⟩,
    ⟨some 8, none, .d (.mv (.t 25))⟩])
  (.seq (.reg [⟨some 26, none, .d (.load true 2 (.t 2))⟩,
    ⟨some 27, none, .w (.callL (.f f_after) [(.t 26), (.f f_AnswerList1)] [] 1 false)⟩,
    ⟨some 9, none, .w (.alloc [.nilsl, .int .i64 0])⟩,
    ⟨none, none, .w (.store 2 (.t 9) (.t 27))⟩])
  (.seq (.seq (.reg [⟨some 28, none, .d (.mv (.t 1))⟩,
    ⟨some 29, none, .d (.len (.t 28))⟩,
    ⟨some 30, none, .d (.mv (.c (.int .i64 0)))⟩])
  (.block 0 (.loop (.seq (.reg [⟨some 31, none, .d (.bin .arith .lss (.t 30) (.t 29))⟩])
    (.seq (.cond (.t 31) (.skip) (.exit 0))
    (.seq (.block 1 (.seq (.reg [⟨some 32, none, .d (.ia 1 (.t 28) (.t 30))⟩,
       ⟨some 33, none, .d (.load false 1 (.t 32))⟩,
       ⟨some 11, none, .d (.mv (.t 33))⟩])
     (.seq (.reg [⟨some 34, none, .d (.load true 2 (.t 9))⟩,
       ⟨some 35, none, .d (.load true 2 (.t 7))⟩,
       ⟨some 36, none, .d (.mv (.t 11))⟩,
       ⟨some 37, none, .d (.call (.f f_hold) [(.t 34), (.t 35), (.t 36)])⟩,
       ⟨some 12, none, .d (.mv (.t 37))⟩])
     (.creg [⟨some 38, none, .d (.mv (.t 8))⟩,
       ⟨some 39, none, .d (.mv (.t 12))⟩,
       ⟨some 42, none, .d (.load true 2 (.t 9))⟩,
       ⟨some 43, none, .d (.mv (.t 11))⟩,
       ⟨some 44, none, .d (.mv (.t 12))⟩,
       ⟨some 45, none, .d (.build [.int .i64 0, .bool false] [(0, 1, (.t 43)), (1, 1, (.t 44))])⟩] [(⟨some 40, none, .w (.bslice 1 [.bool false] [(0, (.t 39))])⟩, [⟨some 38, none, .d (.mv (.t 8))⟩, ⟨some 42, none, .d (.load true 2 (.t 9))⟩, ⟨some 43, none, .d (.mv (.t 11))⟩, ⟨some 44, none, .d (.mv (.t 12))⟩, ⟨some 45, none, .d (.build [.int .i64 0, .bool false] [(0, 1, (.t 43)), (1, 1, (.t 44))])⟩]),
       (⟨some 41, none, .w (.append 1 (.t 38) (.t 40))⟩, [⟨some 42, none, .d (.load true 2 (.t 9))⟩, ⟨some 43, none, .d (.mv (.t 11))⟩, ⟨some 44, none, .d (.mv (.t 12))⟩, ⟨some 45, none, .d (.build [.int .i64 0, .bool false] [(0, 1, (.t 43)), (1, 1, (.t 44))])⟩])] [⟨some 46, none, .w (.callL (.f f_answered) [(.t 42), (.t 45)] [] 1 false)⟩,
       ⟨some 8, none, .d (.mv (.t 41))⟩,
       ⟨none, none, .w (.store 2 (.t 9) (.t 46))⟩]))))
    (.reg [⟨some 47, none, .d (.bin .arith .add (.t 30) (.c (.int .i64 1)))⟩,
      ⟨some 30, none, .d (.mv (.t 47))⟩])))))))
  (.seq (.dreg [] [([], ⟨some 48, none, .d (.mv (.t 8))⟩),
    ([], ⟨some 49, none, .d (.load true 2 (.t 9))⟩),
    ([], ⟨some 4, none, .d (.mv (.t 48))⟩)] [⟨none, none, .w (.store 2 (.t 5) (.t 49))⟩,
    ⟨some 6, none, .d (.mv (.c (.bool true)))⟩])
  (.ret)))))), [.tmp 4, .cell 5 2 true, .tmp 6]⟩
def n_HoldPlay : Nat → Option Ann := fun d => if d = 27 then some ⟨[], 1, false⟩ else if d = 46 then some ⟨[], 1, false⟩ else none
abbrev k_HoldPlay : List Nat := [0, 1, 2, 4, 5, 6, 7, 8, 9, 11, 12, 22, 28, 29, 30, 31]
abbrev o_HoldPlay : List Nat := [2, 5, 7, 9, 25, 27, 40, 41, 46]
def a_s_HoldPlay (f_l8Good : FuncId) (f_l2Open : FuncId) (f_l4Needs : FuncId) (f_l1Own : FuncId) (f_l8Hold : FuncId) (f_l2After : FuncId) : AFn := ⟨2, 
  .seq (.reg [⟨some 2, none, .w (.box 2 (.t 0))⟩,
    ⟨some 4, none, .d (.mv (.c (.nilsl)))⟩,
    ⟨some 5, none, .w (.alloc [.nilsl, .int .i64 0])⟩,
    ⟨some 6, none, .d (.mv (.c (.bool false)))⟩])
  (.seq (.reg [⟨some 12, none, .w (.bslice 1 [] [])⟩,
    ⟨some 7, none, .d (.mv (.t 12))⟩])
  (.seq (.seq (.reg [⟨some 13, none, .d (.load true 2 (.t 2))⟩,
    ⟨some 14, none, .d (.mv (.t 1))⟩,
    ⟨some 15, none, .d (.call (.f f_l8Good) [(.t 13), (.t 14)])⟩,
    ⟨some 16, none, .d (.not (.t 15))⟩,
    ⟨some 17, none, .d (.mv (.t 16))⟩,
    ⟨some 18, some (17, false), .d (.load true 2 (.t 2))⟩,
    ⟨some 19, some (17, false), .d (.call (.f f_l2Open) [(.t 18)])⟩,
    ⟨some 20, some (17, false), .d (.len (.t 19))⟩,
    ⟨some 21, some (17, false), .d (.bin .arith .gtr (.t 20) (.c (.int .i64 8)))⟩,
    ⟨some 22, none, .d (.pick (.t 17) (.c (.bool true)) (.t 21))⟩])
  (.cond (.t 22) (.seq (.reg [⟨some 23, none, .d (.mv (.t 7))⟩,
     ⟨some 24, none, .d (.build [.nilsl, .int .i64 0] [])⟩,
     ⟨some 4, none, .d (.mv (.t 23))⟩,
     ⟨none, none, .w (.store 2 (.t 5) (.t 24))⟩,
     ⟨some 6, none, .d (.mv (.c (.bool false)))⟩])
   (.ret)) (.skip)))
  (.seq (.dreg [9] [([9], ⟨some 25, none, .d (.fa 1 (.t 2))⟩),
    ([9], ⟨some 26, none, .d (.load false 1 (.t 25))⟩),
    ([9], ⟨some 27, none, .d (.bin .arith .add (.t 26) (.c (.int .i64 1)))⟩),
    ([9], ⟨some 28, none, .d (.call (.f f_l4Needs) [(.t 27)])⟩),
    ([9], ⟨some 29, none, .d (.fa 0 (.t 2))⟩),
    ([9], ⟨some 30, none, .d (.load false 1 (.t 29))⟩),
    ([9], ⟨some 31, none, .d (.call (.f f_l1Own) [(.t 30)])⟩),
    ([9], ⟨some 32, none, .d (.fa 1 (.t 2))⟩),
    ([9], ⟨some 33, none, .d (.load false 1 (.t 32))⟩),
    ([9], ⟨some 34, none, .d (.build [.nilsl, .int .i64 0] [(0, 1, (.t 31)), (1, 1, (.t 33))])⟩),
    ([], ⟨some 9, none, .w (.alloc [.nilsl, .int .i64 0])⟩),
    ([], ⟨some 8, none, .d (.mv (.t 28))⟩)] [⟨none, none, .w (.store 2 (.t 9) (.t 34))⟩])
  (.seq (.seq (.reg [⟨some 10, none, .d (.mv (.c (.int .i64 0)))⟩])
  (.block 0 (.loop (.seq (.seq (.reg [⟨some 35, none, .d (.mv (.t 10))⟩,
      ⟨some 36, none, .d (.mv (.t 1))⟩,
      ⟨some 37, none, .d (.len (.t 36))⟩,
      ⟨some 38, none, .d (.bin .arith .lss (.t 35) (.t 37))⟩])
    (.cond (.t 38) (.skip) (.exit 0)))
    (.seq (.block 1 (.seq (.dreg [] [([], ⟨some 41, none, .d (.load true 2 (.t 9))⟩),
       ([], ⟨some 42, none, .d (.mv (.t 1))⟩),
       ([], ⟨some 43, none, .d (.mv (.t 10))⟩),
       ([], ⟨some 44, none, .d (.ia 1 (.t 42) (.t 43))⟩),
       ([], ⟨some 45, none, .d (.load false 1 (.t 44))⟩),
       ([], ⟨some 46, none, .d (.mv (.t 8))⟩)] [⟨some 47, none, .d (.call (.f f_l8Hold) [(.t 41), (.t 45), (.t 46)])⟩,
       ⟨some 11, none, .d (.mv (.t 47))⟩])
     (.seq (.reg [⟨some 48, none, .d (.mv (.t 7))⟩,
       ⟨some 49, none, .d (.mv (.t 11))⟩,
       ⟨some 50, none, .w (.bslice 1 [.bool false] [(0, (.t 49))])⟩,
       ⟨some 51, none, .w (.append 1 (.t 48) (.t 50))⟩,
       ⟨some 7, none, .d (.mv (.t 51))⟩])
     (.dreg [] [([], ⟨some 52, none, .d (.load true 2 (.t 9))⟩),
       ([], ⟨some 53, none, .d (.mv (.t 1))⟩),
       ([], ⟨some 54, none, .d (.mv (.t 10))⟩),
       ([], ⟨some 55, none, .d (.ia 1 (.t 53) (.t 54))⟩),
       ([], ⟨some 56, none, .d (.load false 1 (.t 55))⟩),
       ([], ⟨some 57, none, .d (.mv (.t 11))⟩)] [⟨some 58, none, .d (.call (.f f_l2After) [(.t 52), (.t 56), (.t 57)])⟩,
       ⟨none, none, .w (.store 2 (.t 9) (.t 58))⟩]))))
    (.reg [⟨some 39, none, .d (.mv (.t 10))⟩,
      ⟨some 40, none, .d (.bin .arith .add (.t 39) (.c (.int .i64 1)))⟩,
      ⟨some 10, none, .d (.mv (.t 40))⟩]))))))
  (.seq (.dreg [] [([], ⟨some 59, none, .d (.mv (.t 7))⟩),
    ([], ⟨some 60, none, .d (.load true 2 (.t 9))⟩),
    ([], ⟨some 4, none, .d (.mv (.t 59))⟩)] [⟨none, none, .w (.store 2 (.t 5) (.t 60))⟩,
    ⟨some 6, none, .d (.mv (.c (.bool true)))⟩])
  (.ret)))))), [.tmp 4, .cell 5 2 true, .tmp 6]⟩
def n_s_HoldPlay : Nat → Option Ann := fun _ => none
abbrev k_s_HoldPlay : List Nat := [0, 1, 2, 4, 5, 6, 7, 8, 9, 10, 11, 22, 38]
abbrev o_s_HoldPlay : List Nat := [2, 5, 9, 12, 50, 51]
def c_HoldPlay : Con := pure' fun
  | [.p (.agg [.sl 1 x_, .int .i64 m]), .p (.sl 1 l_)] => if isI x_ = true ∧ isI l_ = true ∧ ((ofI x_).length ≤ 1100000 ∧ (ofI l_).length ≤ 1100000) then some (if hpOk (ofI x_) m (ofI l_) = true then .tp [.ar 2000000, .ag [.ar 2000001, .p (.int .i64 m)], .p (.bool true)] else .tp [.p .nilsl, .ag [.p .nilsl, .p (.int .i64 0)], .p (.bool false)], if hpOk (ofI x_) m (ofI l_) = true then [.arr 1 (bools (hpN m (ofI x_) (ofI l_) (ofI l_).length).2), .arr 1 (ints (hpN m (ofI x_) (ofI l_) (ofI l_).length).1)] else []) else none
  | _ => none
def c_s_HoldPlay : Con := pure' fun
  | [.p (.agg [.sl 1 x_, .int .i64 m]), .p (.sl 1 l_)] => if isI x_ = true ∧ isI l_ = true ∧ ((ofI x_).length ≤ 1100000 ∧ (ofI l_).length ≤ 1100000) then some (.tp [.ar 2000000, (if hpOk (ofI x_) m (ofI l_) = true then .ag [.p (.sl 1 (ints (hpN m (ofI x_) (ofI l_) (ofI l_).length).1)), .p (.int .i64 m)] else .ag [.p .nilsl, .p (.int .i64 0)]), .p (.bool (hpOk (ofI x_) m (ofI l_)))], [.arr 1 (bools (if hpOk (ofI x_) m (ofI l_) = true then (hpN m (ofI x_) (ofI l_) (ofI l_).length).2 else []))]) else none
  | _ => none
theorem s_HoldPlay {P : Program} (hm : P.follows .mixedOrders = true) {Γ : Gam} (hΓ : GS P Γ) {n : FuncId} {f_areListed : FuncId} {f_opened : FuncId} {f_neederOf : FuncId} {f_bothWays : FuncId} {f_after : FuncId} {f_AnswerList1 : FuncId} {f_hold : FuncId} {f_answered : FuncId} (is : Is P n (a_HoldPlay f_areListed f_opened f_neederOf f_bothWays f_after f_AnswerList1 f_hold f_answered)) (h_areListed : Γ f_areListed = c_areListed) (h_opened : Γ f_opened = c_l2Open) (h_hold : Γ f_hold = c_hold) (h_answered : Γ f_answered = c_answered) {Γ0 Γ1 : Gam} (h_neederOf : Γ f_neederOf = c_neederOf Γ1) (h_bothWays : Γ1 f_bothWays = c_bothWays) (h_after : Γ f_after = c_after Γ0) (h_no : Γ0 f_AnswerList1 = c_no) : Says P n c_HoldPlay := by
  refine Says.pure fun args r fs h => ?_
  split at h
  case h_2 => cases h
  rename_i x_ m l_
  split at h
  case isFalse => cases h
  rename_i hc
  obtain ⟨hx_, hc⟩ := hc
  obtain ⟨x, rfl⟩ := isI_out hx_
  obtain ⟨hl_, hc⟩ := hc
  obtain ⟨l, rfl⟩ := isI_out hl_
  simp only [ofI_ints, ofBo_bools, ofAs_asks, Option.some.injEq, Prod.mk.injEq] at h hc
  obtain ⟨rfl, rfl⟩ := h
  cases hL : isL x m l with
  | false =>
    have hok0 : hpOk x m l = false := by simp only [hpOk, hL, Bool.false_and]
    refine is.go hm hΓ k_HoldPlay o_HoldPlay (by simp [a_HoldPlay]) ?_
    simp only [a_HoldPlay, h_areListed, c_areListed, h_opened, c_l2Open, h_hold, c_hold, h_answered, c_answered, hc, hL, hok0, Bool.false_eq_true, List.zipIdx_cons, List.zipIdx_nil, ↓SP, SQ, Gam.add, stepM, callC, argC, lendO, nmBy, nmC, likeL, likeB, plainOb, offs, exL, X, F, trP, trO, stepD, stepW, newA, SV.tr, SV.trL, fz, allP, Ob.tr, loadA, cellsA, SV.cells, binA, binI, eqOut, isSl, isPt, natOf, callee, snap, SV.refsL, SV.refs, thaw, fzAll, loA, hiA, elemOf, partsA, buildA, putCells, ↓reduceIte, reduceCtorEq, okCell, Nat.reduceAdd, Nat.reduceEqDiff, Nat.reduceSub, Nat.reduceMul, Nat.reduceLeDiff, Nat.reduceLT, Nat.reduceBEq, PV.scal, PV.scalL, SV.scal, SV.scalL, Ob.scal, PV.isCell, pure', resO]
    refine finA_gen [] trivial (by simp [retA, rvA, mkE_cons, mk_nil, mkO_cons, mkO_nil, loadA, SV.tr, SV.trL, nmF, rn_nil, rn_cons1, rn_cons2, plainOb, SV.refsL, SV.refs, Ob.refs, X, F, List.range_succ, mkO, setO_mk]; rfl) ?_ ?_ ?_ ?_ ?_ ?_ ?_ <;> simp [retA, rvA, mkE_cons, mk_nil, mkO_cons, mkO_nil, loadA, SV.tr, SV.trL, nmF, rn_nil, rn_cons1, rn_cons2, plainOb, SV.refsL, SV.refs, Ob.refs, X, F, List.range_succ, mkO, setO_mk]
  | true =>
    by_cases h8 : (opens x).length ≤ 8
    case neg =>
      have hok0 : hpOk x m l = false := by simp only [hpOk, dec_f h8, Bool.and_false]
      have h8' : ((opens x).length : Int) > 8 := by omega
      refine is.go hm hΓ k_HoldPlay o_HoldPlay (by simp [a_HoldPlay]) ?_
      simp only [a_HoldPlay, h_areListed, c_areListed, h_opened, c_l2Open, h_hold, c_hold, h_answered, c_answered, hc, hL, hok0, h8', Bool.false_eq_true, List.zipIdx_cons, List.zipIdx_nil, ↓SP, SQ, Gam.add, stepM, callC, argC, lendO, nmBy, nmC, likeL, likeB, plainOb, offs, exL, X, F, trP, trO, stepD, stepW, newA, SV.tr, SV.trL, fz, allP, Ob.tr, loadA, cellsA, SV.cells, binA, binI, eqOut, isSl, isPt, natOf, callee, snap, SV.refsL, SV.refs, thaw, fzAll, loA, hiA, elemOf, partsA, buildA, putCells, ↓reduceIte, reduceCtorEq, okCell, Nat.reduceAdd, Nat.reduceEqDiff, Nat.reduceSub, Nat.reduceMul, Nat.reduceLeDiff, Nat.reduceLT, Nat.reduceBEq, PV.scal, PV.scalL, SV.scal, SV.scalL, Ob.scal, PV.isCell, pure', resO]
      refine finA_gen [] trivial (by simp [retA, rvA, mkE_cons, mk_nil, mkO_cons, mkO_nil, loadA, SV.tr, SV.trL, nmF, rn_nil, rn_cons1, rn_cons2, plainOb, SV.refsL, SV.refs, Ob.refs, X, F, List.range_succ, mkO, setO_mk]; rfl) ?_ ?_ ?_ ?_ ?_ ?_ ?_ <;> simp [retA, rvA, mkE_cons, mk_nil, mkO_cons, mkO_nil, loadA, SV.tr, SV.trL, nmF, rn_nil, rn_cons1, rn_cons2, plainOb, SV.refsL, SV.refs, Ob.refs, X, F, List.range_succ, mkO, setO_mk]
    have hok0 : hpOk x m l = true := by simp only [hpOk, hL, dec_t h8, Bool.and_self]
    have h8' : ¬ ((opens x).length : Int) > 8 := by omega
    obtain ⟨hst, hl8⟩ := isL_st hL
    have hne := neederOf_both h_bothWays
    have h1000 := isSt_small hst
    have hask := ask_no h_no x.length
    refine is.go hm hΓ k_HoldPlay o_HoldPlay (by simp [a_HoldPlay]) ?_
    simp only [a_HoldPlay, h_areListed, c_areListed, h_opened, c_l2Open, h_hold, c_hold, h_answered, c_answered, hc, hL, hok0, h8', h1000, h_neederOf, hne, h_after, c_after, hask, afterL_no', ints_len, isI_ints, ofI_ints, List.zipIdx_cons, List.zipIdx_nil, ↓SP, SQ, Gam.add, stepM, callC, argC, lendO, nmBy, nmC, likeL, likeB, plainOb, offs, exL, X, F, trP, trO, stepD, stepW, newA, SV.tr, SV.trL, fz, allP, Ob.tr, loadA, cellsA, SV.cells, binA, binI, eqOut, isSl, isPt, natOf, callee, snap, SV.refsL, SV.refs, thaw, fzAll, loA, hiA, elemOf, partsA, buildA, putCells, ↓reduceIte, reduceCtorEq, okCell, Nat.reduceAdd, Nat.reduceEqDiff, Nat.reduceSub, Nat.reduceMul, Nat.reduceLeDiff, Nat.reduceLT, Nat.reduceBEq, PV.scal, PV.scalL, SV.scal, SV.scalL, Ob.scal, PV.isCell, pure', resO]
    refine loop_at (fun s : J => mkEnv [(0, .p (.agg [.sl 1 (ints x), .int .i64 m])), (1, .p (.sl 1 (ints l))), (2, .bx 2 0), (4, .p .nilsl), (5, .bx 5 0), (6, sb false), (7, .bx 7 0), (8, .ar 25), (9, .bx 9 0), (11, s.a), (12, s.b), (22, sb false), (28, .p (.sl 1 (ints l))), (29, si l.length), (30, si s.i), (31, s.c)]) (fun s => mkO [(2, some (.box [.p (.sl 1 (ints x)), si m])), (5, some (.box [.p .nilsl, si 0])), (7, some (.box [.p (.fn f_bothWays [] []), .p (.mapv (nES true))])), (9, some (.box [match s.i with | 0 => .ar 27 | _ + 1 => .ar 46, si m])), (25, some (.arr 1 (bools (hpN m x l s.i).2))), (27, some (.arr 1 (ints x))), (40, s.o), (41, none), (46, match s.i with | 0 => none | k + 1 => some (.arr 1 (ints (hpN m x l (k + 1)).1)))]) (fun s => s.i ≤ l.length) (fun s => l.length - s.i) ⟨0, .junk, .junk, .junk, .junk, .junk, .junk, .junk, .junk, .junk, .junk, .junk, .junk, none, none, none⟩ (by simp) rfl rfl ?_
    rintro ⟨i, c1, c2, c3, c4, c5, c6, c7, c8, c9, c10, c11, c12, o1, o2, o3⟩ hi R hR hN
    simp only at hi
    cases i with
    | zero =>
      by_cases h : 0 < l.length
      · have h1 : ((0 : Nat) : Int) < l.length := by omega
        have hw := wrap_one (i := 0) (by omega)
        have hg := ints_get h
        obtain ⟨y1, y2, y3⟩ := hpN_ok (l := l) hst h8 0
        have y4 : (hpN m x l 0).1.length ≤ 1100000 := by have := (st_out y1).1; omega
        have y5 := isSt_small y1
        have e1 : afterL (fun j => (bitW (l.getD 0 0) (j : Int) == 1) != hldV m (l.getD 0 0) (hpN m x l 0).1) m (hpN m x l 0).1 = (hpN m x l (0 + 1)).1 := rfl
        have e2 : (hpN m x l 0).2 ++ [hldV m (l.getD 0 0) (hpN m x l 0).1] = (hpN m x l (0 + 1)).2 := rfl
        have hr : (hpN m x l 0).2.length + 1 ≤ roomA := by rw [y3]; unfold roomA; omega
        have z1 : (hpN m x l 0).1 = x := rfl
        rw [z1] at y1 y2 y4 y5 e1 e2
        simp only [h1, hw, hg, y1, y2, y4, y5, e1, e2, hr, h_hold, c_hold, h_answered, c_answered, bools_len, bools_app1, bools_cell, ints_len, isI_ints, ofI_ints, ↓aw_creg, ↓runc_nil, ↓runc_w, chk_no, chk_d, and_self, and_true, true_and, ↓SP, SQ, Gam.add, stepM, callC, argC, lendO, nmBy, nmC, likeL, likeB, plainOb, offs, exL, X, F, trP, trO, stepD, stepW, newA, SV.tr, SV.trL, fz, allP, Ob.tr, loadA, cellsA, SV.cells, binA, binI, eqOut, isSl, isPt, natOf, callee, snap, SV.refsL, SV.refs, thaw, fzAll, loA, hiA, elemOf, partsA, buildA, putCells, ↓reduceIte, reduceCtorEq, okCell, Nat.reduceAdd, Nat.reduceEqDiff, Nat.reduceSub, Nat.reduceMul, Nat.reduceLeDiff, Nat.reduceLT, Nat.reduceBEq, PV.scal, PV.scalL, SV.scal, SV.scalL, Ob.scal, PV.isCell, pure', resO]
        exact hN ⟨0 + 1, _, _, _, .junk, .junk, .junk, .junk, .junk, .junk, .junk, .junk, .junk, _, none, none⟩ _ _ (by simp only; omega) (by simp only; omega) rfl rfl
      · have h1 : ¬ ((0 : Nat) : Int) < l.length := by omega
        have he : l.length = 0 := by omega
        have hz : hpN m x l 0 = (x, []) := rfl
        simp only [h1, he, hz, ↓SP, SQ, Gam.add, stepM, callC, argC, lendO, nmBy, nmC, likeL, likeB, plainOb, offs, exL, X, F, trP, trO, stepD, stepW, newA, SV.tr, SV.trL, fz, allP, Ob.tr, loadA, cellsA, SV.cells, binA, binI, eqOut, isSl, isPt, natOf, callee, snap, SV.refsL, SV.refs, thaw, fzAll, loA, hiA, elemOf, partsA, buildA, putCells, ↓reduceIte, reduceCtorEq, okCell, Nat.reduceAdd, Nat.reduceEqDiff, Nat.reduceSub, Nat.reduceMul, Nat.reduceLeDiff, Nat.reduceLT, Nat.reduceBEq, PV.scal, PV.scalL, SV.scal, SV.scalL, Ob.scal, PV.isCell, pure', resO]
        refine hR _ _ _ (by intro h; cases h) ?_
        simp only [↓SP, SQ, Gam.add, stepM, callC, argC, lendO, nmBy, nmC, likeL, likeB, plainOb, offs, exL, X, F, trP, trO, stepD, stepW, newA, SV.tr, SV.trL, fz, allP, Ob.tr, loadA, cellsA, SV.cells, binA, binI, eqOut, isSl, isPt, natOf, callee, snap, SV.refsL, SV.refs, thaw, fzAll, loA, hiA, elemOf, partsA, buildA, putCells, ↓reduceIte, reduceCtorEq, okCell, Nat.reduceAdd, Nat.reduceEqDiff, Nat.reduceSub, Nat.reduceMul, Nat.reduceLeDiff, Nat.reduceLT, Nat.reduceBEq, PV.scal, PV.scalL, SV.scal, SV.scalL, Ob.scal, PV.isCell, pure', resO]
        refine finA_gen [25, 27] trivial (by simp [retA, rvA, mkE_cons, mk_nil, mkO_cons, mkO_nil, loadA, SV.tr, SV.trL, nmF, rn_nil, rn_cons1, rn_cons2, plainOb, SV.refsL, SV.refs, Ob.refs, X, F, List.range_succ, mkO, setO_mk]; rfl) ?_ ?_ ?_ ?_ ?_ ?_ ?_ <;> simp [bools, he, hz, retA, rvA, mkE_cons, mk_nil, mkO_cons, mkO_nil, loadA, SV.tr, SV.trL, nmF, rn_nil, rn_cons1, rn_cons2, plainOb, SV.refsL, SV.refs, Ob.refs, X, F, List.range_succ, mkO, setO_mk]
    | succ i =>
      by_cases h : i + 1 < l.length
      · have h1 : (((i + 1) : Nat) : Int) < l.length := by omega
        have hw := wrap_one (i := (i + 1)) (by omega)
        have hg := ints_get h
        obtain ⟨y1, y2, y3⟩ := hpN_ok (l := l) hst h8 (i + 1)
        have y4 : (hpN m x l (i + 1)).1.length ≤ 1100000 := by have := (st_out y1).1; omega
        have y5 := isSt_small y1
        have e1 : afterL (fun j => (bitW (l.getD (i + 1) 0) (j : Int) == 1) != hldV m (l.getD (i + 1) 0) (hpN m x l (i + 1)).1) m (hpN m x l (i + 1)).1 = (hpN m x l ((i + 1) + 1)).1 := rfl
        have e2 : (hpN m x l (i + 1)).2 ++ [hldV m (l.getD (i + 1) 0) (hpN m x l (i + 1)).1] = (hpN m x l ((i + 1) + 1)).2 := rfl
        have hr : (hpN m x l (i + 1)).2.length + 1 ≤ roomA := by rw [y3]; unfold roomA; omega
        
        
        simp only [h1, hw, hg, y1, y2, y4, y5, e1, e2, hr, h_hold, c_hold, h_answered, c_answered, bools_len, bools_app1, bools_cell, ints_len, isI_ints, ofI_ints, ↓aw_creg, ↓runc_nil, ↓runc_w, chk_no, chk_d, and_self, and_true, true_and, ↓SP, SQ, Gam.add, stepM, callC, argC, lendO, nmBy, nmC, likeL, likeB, plainOb, offs, exL, X, F, trP, trO, stepD, stepW, newA, SV.tr, SV.trL, fz, allP, Ob.tr, loadA, cellsA, SV.cells, binA, binI, eqOut, isSl, isPt, natOf, callee, snap, SV.refsL, SV.refs, thaw, fzAll, loA, hiA, elemOf, partsA, buildA, putCells, ↓reduceIte, reduceCtorEq, okCell, Nat.reduceAdd, Nat.reduceEqDiff, Nat.reduceSub, Nat.reduceMul, Nat.reduceLeDiff, Nat.reduceLT, Nat.reduceBEq, PV.scal, PV.scalL, SV.scal, SV.scalL, Ob.scal, PV.isCell, pure', resO]
        exact hN ⟨(i + 1) + 1, _, _, _, .junk, .junk, .junk, .junk, .junk, .junk, .junk, .junk, .junk, _, none, none⟩ _ _ (by simp only; omega) (by simp only; omega) rfl rfl
      · have h1 : ¬ ((i + 1 : Nat) : Int) < l.length := by omega
        have he : l.length = i + 1 := by omega
        simp only [h1, ↓SP, SQ, Gam.add, stepM, callC, argC, lendO, nmBy, nmC, likeL, likeB, plainOb, offs, exL, X, F, trP, trO, stepD, stepW, newA, SV.tr, SV.trL, fz, allP, Ob.tr, loadA, cellsA, SV.cells, binA, binI, eqOut, isSl, isPt, natOf, callee, snap, SV.refsL, SV.refs, thaw, fzAll, loA, hiA, elemOf, partsA, buildA, putCells, ↓reduceIte, reduceCtorEq, okCell, Nat.reduceAdd, Nat.reduceEqDiff, Nat.reduceSub, Nat.reduceMul, Nat.reduceLeDiff, Nat.reduceLT, Nat.reduceBEq, PV.scal, PV.scalL, SV.scal, SV.scalL, Ob.scal, PV.isCell, pure', resO]
        refine hR _ _ _ (by intro h; cases h) ?_
        simp only [↓SP, SQ, Gam.add, stepM, callC, argC, lendO, nmBy, nmC, likeL, likeB, plainOb, offs, exL, X, F, trP, trO, stepD, stepW, newA, SV.tr, SV.trL, fz, allP, Ob.tr, loadA, cellsA, SV.cells, binA, binI, eqOut, isSl, isPt, natOf, callee, snap, SV.refsL, SV.refs, thaw, fzAll, loA, hiA, elemOf, partsA, buildA, putCells, ↓reduceIte, reduceCtorEq, okCell, Nat.reduceAdd, Nat.reduceEqDiff, Nat.reduceSub, Nat.reduceMul, Nat.reduceLeDiff, Nat.reduceLT, Nat.reduceBEq, PV.scal, PV.scalL, SV.scal, SV.scalL, Ob.scal, PV.isCell, pure', resO]
        refine finA_gen [25, 46] trivial (by simp [retA, rvA, mkE_cons, mk_nil, mkO_cons, mkO_nil, loadA, SV.tr, SV.trL, nmF, rn_nil, rn_cons1, rn_cons2, plainOb, SV.refsL, SV.refs, Ob.refs, X, F, List.range_succ, mkO, setO_mk]; rfl) ?_ ?_ ?_ ?_ ?_ ?_ ?_ <;> simp [he, retA, rvA, mkE_cons, mk_nil, mkO_cons, mkO_nil, loadA, SV.tr, SV.trL, nmF, rn_nil, rn_cons1, rn_cons2, plainOb, SV.refsL, SV.refs, Ob.refs, X, F, List.range_succ, mkO, setO_mk]
theorem s_s_HoldPlay {P : Program} (hm : P.follows .mixedOrders = true) {Γ : Gam} (hΓ : GS P Γ) {n : FuncId} {f_l8Good : FuncId} {f_l2Open : FuncId} {f_l4Needs : FuncId} {f_l1Own : FuncId} {f_l8Hold : FuncId} {f_l2After : FuncId} (is : Is P n (a_s_HoldPlay f_l8Good f_l2Open f_l4Needs f_l1Own f_l8Hold f_l2After)) (h_l8Good : Γ f_l8Good = c_areListed) (h_l2Open : Γ f_l2Open = c_l2Open) (h_l4Needs : Γ f_l4Needs = c_l4Needs) (h_l1Own : Γ f_l1Own = c_Clone) (h_l8Hold : Γ f_l8Hold = c_l8Hold) (h_l2After : Γ f_l2After = c_l2After)  : Says P n c_s_HoldPlay := by
  refine Says.pure fun args r fs h => ?_
  split at h
  case h_2 => cases h
  rename_i x_ m l_
  split at h
  case isFalse => cases h
  rename_i hc
  obtain ⟨hx_, hc⟩ := hc
  obtain ⟨x, rfl⟩ := isI_out hx_
  obtain ⟨hl_, hc⟩ := hc
  obtain ⟨l, rfl⟩ := isI_out hl_
  simp only [ofI_ints, ofBo_bools, ofAs_asks, Option.some.injEq, Prod.mk.injEq] at h hc
  obtain ⟨rfl, rfl⟩ := h
  cases hL : isL x m l with
  | false =>
    have hok0 : hpOk x m l = false := by simp only [hpOk, hL, Bool.false_and]
    refine is.go hm hΓ k_s_HoldPlay o_s_HoldPlay (by simp [a_s_HoldPlay]) ?_
    simp only [a_s_HoldPlay, h_l8Good, c_areListed, h_l2Open, c_l2Open, h_l4Needs, c_l4Needs, h_l1Own, c_Clone, h_l8Hold, c_l8Hold, h_l2After, c_l2After, hc, hL, hok0, Bool.false_eq_true, List.zipIdx_cons, List.zipIdx_nil, ↓SP, SQ, Gam.add, stepM, callC, argC, lendO, nmBy, nmC, likeL, likeB, plainOb, offs, exL, X, F, trP, trO, stepD, stepW, newA, SV.tr, SV.trL, fz, allP, Ob.tr, loadA, cellsA, SV.cells, binA, binI, eqOut, isSl, isPt, natOf, callee, snap, SV.refsL, SV.refs, thaw, fzAll, loA, hiA, elemOf, partsA, buildA, putCells, ↓reduceIte, reduceCtorEq, okCell, Nat.reduceAdd, Nat.reduceEqDiff, Nat.reduceSub, Nat.reduceMul, Nat.reduceLeDiff, Nat.reduceLT, Nat.reduceBEq, PV.scal, PV.scalL, SV.scal, SV.scalL, Ob.scal, PV.isCell, pure', resO]
    refine finA_gen [12] trivial (by simp [retA, rvA, mkE_cons, mk_nil, mkO_cons, mkO_nil, loadA, SV.tr, SV.trL, nmF, rn_nil, rn_cons1, rn_cons2, plainOb, SV.refsL, SV.refs, Ob.refs, X, F, List.range_succ, mkO, setO_mk]; rfl) ?_ ?_ ?_ ?_ ?_ ?_ ?_ <;> simp [bools, retA, rvA, mkE_cons, mk_nil, mkO_cons, mkO_nil, loadA, SV.tr, SV.trL, nmF, rn_nil, rn_cons1, rn_cons2, plainOb, SV.refsL, SV.refs, Ob.refs, X, F, List.range_succ, mkO, setO_mk]
  | true =>
    by_cases h8 : (opens x).length ≤ 8
    case neg =>
      have hok0 : hpOk x m l = false := by simp only [hpOk, dec_f h8, Bool.and_false]
      have h8' : ((opens x).length : Int) > 8 := by omega
      refine is.go hm hΓ k_s_HoldPlay o_s_HoldPlay (by simp [a_s_HoldPlay]) ?_
      simp only [a_s_HoldPlay, h_l8Good, c_areListed, h_l2Open, c_l2Open, h_l4Needs, c_l4Needs, h_l1Own, c_Clone, h_l8Hold, c_l8Hold, h_l2After, c_l2After, hc, hL, hok0, h8', Bool.false_eq_true, List.zipIdx_cons, List.zipIdx_nil, ↓SP, SQ, Gam.add, stepM, callC, argC, lendO, nmBy, nmC, likeL, likeB, plainOb, offs, exL, X, F, trP, trO, stepD, stepW, newA, SV.tr, SV.trL, fz, allP, Ob.tr, loadA, cellsA, SV.cells, binA, binI, eqOut, isSl, isPt, natOf, callee, snap, SV.refsL, SV.refs, thaw, fzAll, loA, hiA, elemOf, partsA, buildA, putCells, ↓reduceIte, reduceCtorEq, okCell, Nat.reduceAdd, Nat.reduceEqDiff, Nat.reduceSub, Nat.reduceMul, Nat.reduceLeDiff, Nat.reduceLT, Nat.reduceBEq, PV.scal, PV.scalL, SV.scal, SV.scalL, Ob.scal, PV.isCell, pure', resO]
      refine finA_gen [12] trivial (by simp [retA, rvA, mkE_cons, mk_nil, mkO_cons, mkO_nil, loadA, SV.tr, SV.trL, nmF, rn_nil, rn_cons1, rn_cons2, plainOb, SV.refsL, SV.refs, Ob.refs, X, F, List.range_succ, mkO, setO_mk]; rfl) ?_ ?_ ?_ ?_ ?_ ?_ ?_ <;> simp [bools, retA, rvA, mkE_cons, mk_nil, mkO_cons, mkO_nil, loadA, SV.tr, SV.trL, nmF, rn_nil, rn_cons1, rn_cons2, plainOb, SV.refsL, SV.refs, Ob.refs, X, F, List.range_succ, mkO, setO_mk]
    have hok0 : hpOk x m l = true := by simp only [hpOk, hL, dec_t h8, Bool.and_self]
    have h8' : ¬ ((opens x).length : Int) > 8 := by omega
    obtain ⟨hst, hl8⟩ := isL_st hL
    have h1000 := isSt_small hst
    have hmm := (st_out hst).2.1
    have hwm : IntKind.i64.wrap (m + 1) = m + 1 := wrap64 (by omega) (by omega)
    have hm1 : (1 : Int) ≤ m + 1 := by omega
    have hm3 : m + 1 ≤ (3 : Int) := by omega
    refine is.go hm hΓ k_s_HoldPlay o_s_HoldPlay (by simp [a_s_HoldPlay]) ?_
    simp only [a_s_HoldPlay, h_l8Good, c_areListed, h_l2Open, c_l2Open, h_l4Needs, c_l4Needs, h_l1Own, c_Clone, h_l8Hold, c_l8Hold, h_l2After, c_l2After, hc, hL, hok0, h8', hwm, hm1, hm3, ints_len, isI_ints, ofI_ints, List.zipIdx_cons, List.zipIdx_nil, ↓SP, SQ, Gam.add, stepM, callC, argC, lendO, nmBy, nmC, likeL, likeB, plainOb, offs, exL, X, F, trP, trO, stepD, stepW, newA, SV.tr, SV.trL, fz, allP, Ob.tr, loadA, cellsA, SV.cells, binA, binI, eqOut, isSl, isPt, natOf, callee, snap, SV.refsL, SV.refs, thaw, fzAll, loA, hiA, elemOf, partsA, buildA, putCells, ↓reduceIte, reduceCtorEq, okCell, Nat.reduceAdd, Nat.reduceEqDiff, Nat.reduceSub, Nat.reduceMul, Nat.reduceLeDiff, Nat.reduceLT, Nat.reduceBEq, PV.scal, PV.scalL, SV.scal, SV.scalL, Ob.scal, PV.isCell, pure', resO]
    refine loop_at (fun s : J => mkEnv [(0, .p (.agg [.sl 1 (ints x), .int .i64 m])), (1, .p (.sl 1 (ints l))), (2, .bx 2 0), (4, .p .nilsl), (5, .bx 5 0), (6, sb false), (7, .ar 12), (8, .p (.sl 1 (ints (tabK (ntT tabB) (m + 1).toNat 9)))), (9, .bx 9 0), (10, si s.i), (11, s.a), (22, sb false), (38, s.b)]) (fun s => mkO [(2, some (.box [.p (.sl 1 (ints x)), si m])), (5, some (.box [.p .nilsl, si 0])), (9, some (.box [.p (.sl 1 (ints (hpN m x l s.i).1)), si m])), (12, some (.arr 1 (bools (hpN m x l s.i).2))), (50, s.o), (51, none)]) (fun s => s.i ≤ l.length) (fun s => l.length - s.i) ⟨0, .junk, .junk, .junk, .junk, .junk, .junk, .junk, .junk, .junk, .junk, .junk, .junk, none, none, none⟩ (by simp) rfl rfl ?_
    rintro ⟨i, c1, c2, c3, c4, c5, c6, c7, c8, c9, c10, c11, c12, o1, o2, o3⟩ hi R hR hN
    simp only at hi
    by_cases h : i < l.length
    · have h1 : (i : Int) < l.length := by omega
      have hw := wrap_one (i := i) (by omega)
      have hg := ints_get h
      obtain ⟨y1, y2, y3⟩ := hpN_ok (l := l) hst h8 i
      have y4 : (hpN m x l i).1.length ≤ 1100000 := by have := (st_out y1).1; omega
      have y5 := isSt_small y1
      have e1 : afterL (fun j => (bitW (l.getD i 0) (j : Int) == 1) != hldV m (l.getD i 0) (hpN m x l i).1) m (hpN m x l i).1 = (hpN m x l (i + 1)).1 := rfl
      have e2 : (hpN m x l i).2 ++ [hldV m (l.getD i 0) (hpN m x l i).1] = (hpN m x l (i + 1)).2 := rfl
      have hr : (hpN m x l i).2.length + 1 ≤ roomA := by rw [y3]; unfold roomA; omega
      simp only [h1, hw, hg, y1, y2, y4, y5, e1, e2, hr, h_l8Hold, c_l8Hold, h_l2After, c_l2After, bools_len, bools_app1, bools_cell, ints_len, isI_ints, ofI_ints, and_self, ↓SP, SQ, Gam.add, stepM, callC, argC, lendO, nmBy, nmC, likeL, likeB, plainOb, offs, exL, X, F, trP, trO, stepD, stepW, newA, SV.tr, SV.trL, fz, allP, Ob.tr, loadA, cellsA, SV.cells, binA, binI, eqOut, isSl, isPt, natOf, callee, snap, SV.refsL, SV.refs, thaw, fzAll, loA, hiA, elemOf, partsA, buildA, putCells, ↓reduceIte, reduceCtorEq, okCell, Nat.reduceAdd, Nat.reduceEqDiff, Nat.reduceSub, Nat.reduceMul, Nat.reduceLeDiff, Nat.reduceLT, Nat.reduceBEq, PV.scal, PV.scalL, SV.scal, SV.scalL, Ob.scal, PV.isCell, pure', resO]
      exact hN ⟨i + 1, _, _, .junk, .junk, .junk, .junk, .junk, .junk, .junk, .junk, .junk, .junk, _, none, none⟩ _ _ (by simp only; omega) (by simp only; omega) rfl rfl
    · have he : i = l.length := by omega
      have h1 : ¬ (i : Int) < l.length := by omega
      subst he
      simp only [h1, ↓SP, SQ, Gam.add, stepM, callC, argC, lendO, nmBy, nmC, likeL, likeB, plainOb, offs, exL, X, F, trP, trO, stepD, stepW, newA, SV.tr, SV.trL, fz, allP, Ob.tr, loadA, cellsA, SV.cells, binA, binI, eqOut, isSl, isPt, natOf, callee, snap, SV.refsL, SV.refs, thaw, fzAll, loA, hiA, elemOf, partsA, buildA, putCells, ↓reduceIte, reduceCtorEq, okCell, Nat.reduceAdd, Nat.reduceEqDiff, Nat.reduceSub, Nat.reduceMul, Nat.reduceLeDiff, Nat.reduceLT, Nat.reduceBEq, PV.scal, PV.scalL, SV.scal, SV.scalL, Ob.scal, PV.isCell, pure', resO]
      refine hR _ _ _ (by intro h; cases h) ?_
      simp only [↓SP, SQ, Gam.add, stepM, callC, argC, lendO, nmBy, nmC, likeL, likeB, plainOb, offs, exL, X, F, trP, trO, stepD, stepW, newA, SV.tr, SV.trL, fz, allP, Ob.tr, loadA, cellsA, SV.cells, binA, binI, eqOut, isSl, isPt, natOf, callee, snap, SV.refsL, SV.refs, thaw, fzAll, loA, hiA, elemOf, partsA, buildA, putCells, ↓reduceIte, reduceCtorEq, okCell, Nat.reduceAdd, Nat.reduceEqDiff, Nat.reduceSub, Nat.reduceMul, Nat.reduceLeDiff, Nat.reduceLT, Nat.reduceBEq, PV.scal, PV.scalL, SV.scal, SV.scalL, Ob.scal, PV.isCell, pure', resO]
      refine finA_gen [12] trivial (by simp [retA, rvA, mkE_cons, mk_nil, mkO_cons, mkO_nil, loadA, SV.tr, SV.trL, nmF, rn_nil, rn_cons1, rn_cons2, plainOb, SV.refsL, SV.refs, Ob.refs, X, F, List.range_succ, mkO, setO_mk]; rfl) ?_ ?_ ?_ ?_ ?_ ?_ ?_ <;> simp [retA, rvA, mkE_cons, mk_nil, mkO_cons, mkO_nil, loadA, SV.tr, SV.trL, nmF, rn_nil, rn_cons1, rn_cons2, plainOb, SV.refsL, SV.refs, Ob.refs, X, F, List.range_succ, mkO, setO_mk]
def a_x_HoldPlay (f_szState : FuncId) (f_toState : FuncId) (f_toIntS : FuncId) (f_s_HoldPlay : FuncId) (f_HoldPlay : FuncId) (f_eqBoolS : FuncId) (f_eqState : FuncId) (f_eqIntS : FuncId) (f_markState : FuncId) (f_markIntS : FuncId) (f_markBoolS : FuncId) (f_heldBoolS : FuncId) (f_heldState : FuncId) : AFn := ⟨2, 
  .seq (.reg [⟨some 2, none, .w (.box 2 (.t 0))⟩,
    ⟨some 4, none, .d (.mv (.c (.bool false)))⟩])
  (.seq (.seq (.reg [⟨some 20, none, .d (.mv (.t 1))⟩,
    ⟨some 21, none, .d (.len (.t 20))⟩,
    ⟨some 22, none, .d (.bin .arith .gtr (.t 21) (.c (.int .i64 1048576)))⟩])
  (.cond (.t 22) (.seq (.reg [⟨some 4, none, .d (.mv (.c (.bool true)))⟩])
   (.ret)) (.skip)))
  (.seq (.reg [⟨some 5, none, .d (.mv (.c (.int .i64 1048576)))⟩])
  (.seq (.reg [⟨some 23, none, .d (.load true 2 (.t 2))⟩,
    ⟨some 24, none, .d (.mv (.t 5))⟩,
    ⟨some 25, none, .d (.call (.f f_szState) [(.t 23), (.t 24)])⟩,
    ⟨some 5, none, .d (.mv (.t 25))⟩])
  (.seq (.seq (.reg [⟨some 26, none, .d (.mv (.t 5))⟩,
    ⟨some 27, none, .d (.bin .arith .lss (.t 26) (.c (.int .i64 0)))⟩])
  (.cond (.t 27) (.seq (.reg [⟨some 4, none, .d (.mv (.c (.bool true)))⟩])
   (.ret)) (.skip)))
  (.seq (.reg [⟨some 29, none, .d (.load true 2 (.t 2))⟩,
    ⟨some 30, none, .d (.call (.f f_toState) [(.t 29)])⟩,
    ⟨some 31, none, .d (.mv (.t 1))⟩,
    ⟨some 32, none, .d (.call (.f f_toIntS) [(.t 31)])⟩,
    ⟨some 33, none, .d (.call (.f f_s_HoldPlay) [(.t 30), (.t 32)])⟩,
    ⟨some 28, none, .d (.mv (.t 33))⟩,
    ⟨some 34, none, .d (.extract (.t 28) 0)⟩,
    ⟨some 35, none, .d (.extract (.t 28) 1)⟩,
    ⟨some 36, none, .d (.extract (.t 28) 2)⟩,
    ⟨some 7, none, .w (.alloc [.nilsl, .int .i64 0])⟩,
    ⟨some 6, none, .d (.mv (.t 34))⟩,
    ⟨none, none, .w (.store 2 (.t 7) (.t 35))⟩,
    ⟨some 8, none, .d (.mv (.t 36))⟩])
  (.seq (.reg [⟨some 37, none, .d (.load true 2 (.t 2))⟩,
    ⟨some 38, none, .w (.callL (.f f_toState) [(.t 37)] [] 1 false)⟩,
    ⟨some 9, none, .w (.alloc [.nilsl, .int .i64 0])⟩,
    ⟨none, none, .w (.store 2 (.t 9) (.t 38))⟩])
  (.seq (.reg [⟨some 39, none, .d (.mv (.t 1))⟩,
    ⟨some 40, none, .w (.callL (.f f_toIntS) [(.t 39)] [] 1 false)⟩,
    ⟨some 10, none, .d (.mv (.t 40))⟩])
  (.seq (.reg [⟨some 42, none, .d (.load true 2 (.t 9))⟩,
    ⟨some 43, none, .d (.mv (.t 10))⟩,
    ⟨some 44, none, .w (.callL (.f f_HoldPlay) [(.t 42), (.t 43)] [] 2 false)⟩,
    ⟨some 41, none, .d (.mv (.t 44))⟩,
    ⟨some 45, none, .d (.extract (.t 41) 0)⟩,
    ⟨some 46, none, .d (.extract (.t 41) 1)⟩,
    ⟨some 47, none, .d (.extract (.t 41) 2)⟩,
    ⟨some 12, none, .w (.alloc [.nilsl, .int .i64 0])⟩,
    ⟨some 11, none, .d (.mv (.t 45))⟩,
    ⟨none, none, .w (.store 2 (.t 12) (.t 46))⟩,
    ⟨some 13, none, .d (.mv (.t 47))⟩])
  (.seq (.seq (.reg [⟨some 48, none, .d (.mv (.t 11))⟩,
    ⟨some 49, none, .d (.mv (.t 6))⟩,
    ⟨some 50, none, .d (.call (.f f_eqBoolS) [(.t 48), (.t 49)])⟩,
    ⟨some 51, none, .d (.not (.t 50))⟩,
    ⟨some 52, none, .d (.mv (.t 51))⟩,
    ⟨some 53, some (52, false), .d (.load true 2 (.t 12))⟩,
    ⟨some 54, some (52, false), .d (.load true 2 (.t 7))⟩,
    ⟨some 55, some (52, false), .d (.call (.f f_eqState) [(.t 53), (.t 54)])⟩,
    ⟨some 56, some (52, false), .d (.not (.t 55))⟩,
    ⟨some 57, none, .d (.pick (.t 52) (.c (.bool true)) (.t 56))⟩,
    ⟨some 58, none, .d (.mv (.t 57))⟩,
    ⟨some 59, some (58, false), .d (.mv (.t 13))⟩,
    ⟨some 60, some (58, false), .d (.mv (.t 8))⟩,
    ⟨some 61, some (58, false), .d (.bin .bool .neq (.t 59) (.t 60))⟩,
    ⟨some 62, none, .d (.pick (.t 58) (.c (.bool true)) (.t 61))⟩])
  (.cond (.t 62) (.seq (.reg [⟨some 4, none, .d (.mv (.c (.bool false)))⟩])
   (.ret)) (.skip)))
  (.seq (.seq (.dreg [] [([], ⟨some 63, none, .d (.load true 2 (.t 9))⟩),
    ([], ⟨some 64, none, .d (.load true 2 (.t 2))⟩),
    ([], ⟨some 65, none, .d (.call (.f f_toState) [(.t 64)])⟩)] [⟨some 66, none, .d (.call (.f f_eqState) [(.t 63), (.t 65)])⟩,
    ⟨some 67, none, .d (.not (.t 66))⟩])
  (.cond (.t 67) (.seq (.reg [⟨some 4, none, .d (.mv (.c (.bool false)))⟩])
   (.ret)) (.skip)))
  (.seq (.seq (.reg [⟨some 68, none, .d (.mv (.t 10))⟩,
    ⟨some 69, none, .d (.mv (.t 1))⟩,
    ⟨some 70, none, .d (.call (.f f_toIntS) [(.t 69)])⟩,
    ⟨some 71, none, .d (.call (.f f_eqIntS) [(.t 68), (.t 70)])⟩,
    ⟨some 72, none, .d (.not (.t 71))⟩])
  (.cond (.t 72) (.seq (.reg [⟨some 4, none, .d (.mv (.c (.bool false)))⟩])
   (.ret)) (.skip)))
  (.seq (.reg [⟨some 14, none, .d (.mv (.c (.int .i64 1)))⟩])
  (.seq (.reg [⟨some 73, none, .d (.load true 2 (.t 9))⟩,
    ⟨some 74, none, .d (.mv (.t 14))⟩,
    ⟨some 75, none, .w (.callL (.f f_markState) [(.t 73), (.t 74)] [38] 0 false)⟩,
    ⟨some 14, none, .d (.mv (.t 75))⟩])
  (.seq (.reg [⟨some 76, none, .d (.mv (.t 10))⟩,
    ⟨some 77, none, .d (.mv (.t 14))⟩,
    ⟨some 78, none, .w (.callL (.f f_markIntS) [(.t 76), (.t 77)] [40] 0 false)⟩,
    ⟨some 14, none, .d (.mv (.t 78))⟩])
  (.seq (.seq (.reg [⟨some 79, none, .d (.mv (.t 14))⟩,
    ⟨some 80, none, .d (.bin .arith .lss (.t 79) (.c (.int .i64 0)))⟩,
    ⟨some 81, none, .d (.mv (.t 80))⟩,
    ⟨some 82, some (81, false), .d (.mv (.t 11))⟩,
    ⟨some 83, some (81, false), .d (.mv (.t 6))⟩,
    ⟨some 84, some (81, false), .d (.call (.f f_eqBoolS) [(.t 82), (.t 83)])⟩,
    ⟨some 85, some (81, false), .d (.not (.t 84))⟩,
    ⟨some 86, none, .d (.pick (.t 81) (.c (.bool true)) (.t 85))⟩,
    ⟨some 87, none, .d (.mv (.t 86))⟩,
    ⟨some 88, some (87, false), .d (.load true 2 (.t 12))⟩,
    ⟨some 89, some (87, false), .d (.load true 2 (.t 7))⟩,
    ⟨some 90, some (87, false), .d (.call (.f f_eqState) [(.t 88), (.t 89)])⟩,
    ⟨some 91, some (87, false), .d (.not (.t 90))⟩,
    ⟨some 92, none, .d (.pick (.t 87) (.c (.bool true)) (.t 91))⟩,
    ⟨some 93, none, .d (.mv (.t 92))⟩,
    ⟨some 94, some (93, false), .d (.mv (.t 13))⟩,
    ⟨some 95, some (93, false), .d (.mv (.t 8))⟩,
    ⟨some 96, some (93, false), .d (.bin .bool .neq (.t 94) (.t 95))⟩,
    ⟨some 97, none, .d (.pick (.t 93) (.c (.bool true)) (.t 96))⟩])
  (.cond (.t 97) (.seq (.reg [⟨some 4, none, .d (.mv (.c (.bool false)))⟩])
   (.ret)) (.skip)))
  (.seq (.reg [⟨some 15, none, .d (.mv (.c (.int .i64 1)))⟩])
  (.seq (.reg [⟨some 98, none, .d (.mv (.t 11))⟩,
    ⟨some 99, none, .d (.mv (.t 15))⟩,
    ⟨some 100, none, .w (.callL (.f f_markBoolS) [(.t 98), (.t 99)] [44] 0 false)⟩,
    ⟨some 15, none, .d (.mv (.t 100))⟩])
  (.seq (.reg [⟨some 101, none, .d (.load true 2 (.t 12))⟩,
    ⟨some 102, none, .d (.mv (.t 15))⟩,
    ⟨some 103, none, .w (.callL (.f f_markState) [(.t 101), (.t 102)] [50044] 0 false)⟩,
    ⟨some 15, none, .d (.mv (.t 103))⟩])
  (.seq (.reg [⟨some 16, none, .d (.mv (.c (.int .i64 1)))⟩])
  (.seq (.reg [⟨some 104, none, .d (.mv (.t 11))⟩,
    ⟨some 105, none, .d (.mv (.t 16))⟩,
    ⟨some 106, none, .d (.call (.f f_heldBoolS) [(.t 104), (.t 105)])⟩,
    ⟨some 16, none, .d (.mv (.t 106))⟩])
  (.seq (.seq (.reg [⟨some 107, none, .d (.mv (.t 16))⟩,
    ⟨some 108, none, .d (.bin .arith .lss (.t 107) (.c (.int .i64 0)))⟩])
  (.cond (.t 108) (.seq (.reg [⟨some 4, none, .d (.mv (.c (.bool false)))⟩])
   (.ret)) (.skip)))
  (.seq (.reg [⟨some 109, none, .d (.load true 2 (.t 12))⟩,
    ⟨some 110, none, .d (.mv (.t 16))⟩,
    ⟨some 111, none, .d (.call (.f f_heldState) [(.t 109), (.t 110)])⟩,
    ⟨some 16, none, .d (.mv (.t 111))⟩])
  (.seq (.seq (.reg [⟨some 112, none, .d (.mv (.t 16))⟩,
    ⟨some 113, none, .d (.bin .arith .lss (.t 112) (.c (.int .i64 0)))⟩])
  (.cond (.t 113) (.seq (.reg [⟨some 4, none, .d (.mv (.c (.bool false)))⟩])
   (.ret)) (.skip)))
  (.seq (.seq (.reg [⟨some 114, none, .d (.mv (.t 16))⟩,
    ⟨some 115, none, .d (.mv (.t 15))⟩,
    ⟨some 116, none, .d (.bin .arith .neq (.t 114) (.t 115))⟩])
  (.cond (.t 116) (.seq (.reg [⟨some 4, none, .d (.mv (.c (.bool false)))⟩])
   (.ret)) (.skip)))
  (.seq (.reg [⟨some 118, none, .d (.load true 2 (.t 2))⟩,
    ⟨some 119, none, .d (.call (.f f_toState) [(.t 118)])⟩,
    ⟨some 120, none, .d (.mv (.t 1))⟩,
    ⟨some 121, none, .d (.call (.f f_toIntS) [(.t 120)])⟩,
    ⟨some 122, none, .d (.call (.f f_HoldPlay) [(.t 119), (.t 121)])⟩,
    ⟨some 117, none, .d (.mv (.t 122))⟩,
    ⟨some 123, none, .d (.extract (.t 117) 0)⟩,
    ⟨some 124, none, .d (.extract (.t 117) 1)⟩,
    ⟨some 125, none, .d (.extract (.t 117) 2)⟩,
    ⟨some 18, none, .w (.alloc [.nilsl, .int .i64 0])⟩,
    ⟨some 17, none, .d (.mv (.t 123))⟩,
    ⟨none, none, .w (.store 2 (.t 18) (.t 124))⟩,
    ⟨some 19, none, .d (.mv (.t 125))⟩])
  (.seq (.seq (.reg [⟨some 126, none, .d (.mv (.t 17))⟩,
    ⟨some 127, none, .d (.mv (.t 6))⟩,
    ⟨some 128, none, .d (.call (.f f_eqBoolS) [(.t 126), (.t 127)])⟩,
    ⟨some 129, none, .d (.not (.t 128))⟩,
    ⟨some 130, none, .d (.mv (.t 129))⟩,
    ⟨some 131, some (130, false), .d (.load true 2 (.t 18))⟩,
    ⟨some 132, some (130, false), .d (.load true 2 (.t 7))⟩,
    ⟨some 133, some (130, false), .d (.call (.f f_eqState) [(.t 131), (.t 132)])⟩,
    ⟨some 134, some (130, false), .d (.not (.t 133))⟩,
    ⟨some 135, none, .d (.pick (.t 130) (.c (.bool true)) (.t 134))⟩,
    ⟨some 136, none, .d (.mv (.t 135))⟩,
    ⟨some 137, some (136, false), .d (.mv (.t 19))⟩,
    ⟨some 138, some (136, false), .d (.mv (.t 8))⟩,
    ⟨some 139, some (136, false), .d (.bin .bool .neq (.t 137) (.t 138))⟩,
    ⟨some 140, none, .d (.pick (.t 136) (.c (.bool true)) (.t 139))⟩])
  (.cond (.t 140) (.seq (.reg [⟨some 4, none, .d (.mv (.c (.bool false)))⟩])
   (.ret)) (.skip)))
  (.seq (.reg [⟨some 16, none, .d (.mv (.c (.int .i64 1)))⟩])
  (.seq (.reg [⟨some 141, none, .d (.mv (.t 11))⟩,
    ⟨some 142, none, .d (.mv (.t 16))⟩,
    ⟨some 143, none, .d (.call (.f f_heldBoolS) [(.t 141), (.t 142)])⟩,
    ⟨some 16, none, .d (.mv (.t 143))⟩])
  (.seq (.seq (.reg [⟨some 144, none, .d (.mv (.t 16))⟩,
    ⟨some 145, none, .d (.bin .arith .lss (.t 144) (.c (.int .i64 0)))⟩])
  (.cond (.t 145) (.seq (.reg [⟨some 4, none, .d (.mv (.c (.bool false)))⟩])
   (.ret)) (.skip)))
  (.seq (.reg [⟨some 146, none, .d (.load true 2 (.t 12))⟩,
    ⟨some 147, none, .d (.mv (.t 16))⟩,
    ⟨some 148, none, .d (.call (.f f_heldState) [(.t 146), (.t 147)])⟩,
    ⟨some 16, none, .d (.mv (.t 148))⟩])
  (.seq (.seq (.reg [⟨some 149, none, .d (.mv (.t 16))⟩,
    ⟨some 150, none, .d (.bin .arith .lss (.t 149) (.c (.int .i64 0)))⟩])
  (.cond (.t 150) (.seq (.reg [⟨some 4, none, .d (.mv (.c (.bool false)))⟩])
   (.ret)) (.skip)))
  (.seq (.seq (.reg [⟨some 151, none, .d (.mv (.t 16))⟩,
    ⟨some 152, none, .d (.mv (.t 15))⟩,
    ⟨some 153, none, .d (.bin .arith .neq (.t 151) (.t 152))⟩])
  (.cond (.t 153) (.seq (.reg [⟨some 4, none, .d (.mv (.c (.bool false)))⟩])
   (.ret)) (.skip)))
  (.seq (.reg [⟨some 4, none, .d (.mv (.c (.bool true)))⟩])
  (.ret)))))))))))))))))))))))))))))))))), [.tmp 4]⟩
def n_x_HoldPlay : Nat → Option Ann := fun d => if d = 38 then some ⟨[], 1, false⟩ else if d = 40 then some ⟨[], 1, false⟩ else if d = 44 then some ⟨[], 2, false⟩ else if d = 100 then some ⟨[44], 0, false⟩ else if d = 103 then some ⟨[50044], 0, false⟩ else if d = 75 then some ⟨[38], 0, false⟩ else if d = 78 then some ⟨[40], 0, false⟩ else none
abbrev k_x_HoldPlay : List Nat := [0, 1, 2, 4, 5, 6, 7, 8, 9, 10, 11, 12, 13, 14, 15, 16, 17, 18, 19, 22, 27, 62, 67, 72, 97, 108, 113, 116, 140, 145, 150, 153]
abbrev o_x_HoldPlay : List Nat := [2, 7, 9, 12, 18, 38, 40, 44, 50044]
def c_x_HoldPlay : Con := pure' fun
  | [.p (.agg [v, .int .i64 m]), .p u] => match slI v, slI u with
    | some x, some l => if x.length ≤ 9223372036854775807 ∧ l.length ≤ 9223372036854775807 then some (.p (.bool true), []) else none
    | _, _ => none
  | _ => none
set_option maxRecDepth 100000 in
theorem s_x_HoldPlay {P : Program} (hm : P.follows .mixedOrders = true) {Γ : Gam} (hΓ : GS P Γ) {n : FuncId} {f_szState : FuncId} {f_toState : FuncId} {f_toIntS : FuncId} {f_s_HoldPlay : FuncId} {f_HoldPlay : FuncId} {f_eqBoolS : FuncId} {f_eqState : FuncId} {f_eqIntS : FuncId} {f_markState : FuncId} {f_markIntS : FuncId} {f_markBoolS : FuncId} {f_heldBoolS : FuncId} {f_heldState : FuncId} (is : Is P n (a_x_HoldPlay f_szState f_toState f_toIntS f_s_HoldPlay f_HoldPlay f_eqBoolS f_eqState f_eqIntS f_markState f_markIntS f_markBoolS f_heldBoolS f_heldState)) (h_szState : Γ f_szState = c_szState) (h_toState : Γ f_toState = c_toState) (h_toIntS : Γ f_toIntS = c_toIntS) (h_s_HoldPlay : Γ f_s_HoldPlay = c_s_HoldPlay) (h_HoldPlay : Γ f_HoldPlay = c_HoldPlay) (h_eqBoolS : Γ f_eqBoolS = c_eqBoolS) (h_eqState : Γ f_eqState = c_eqState) (h_eqIntS : Γ f_eqIntS = c_eqIntS) (h_markState : Γ f_markState = c_markState) (h_markIntS : Γ f_markIntS = c_markIntS) (h_markBoolS : Γ f_markBoolS = c_markBoolS) (h_heldBoolS : Γ f_heldBoolS = c_heldBoolS) (h_heldState : Γ f_heldState = c_heldState)  : Says P n c_x_HoldPlay := by
  refine Says.pure fun args r fs h => ?_
  split at h
  case h_2 => cases h
  rename_i v m u
  split at h
  case h_2 => cases h
  rename_i x l hx hu
  split at h
  case isFalse => cases h
  rename_i hc
  simp only [Option.some.injEq, Prod.mk.injEq] at h
  obtain ⟨rfl, rfl⟩ := h
  have hlp := slI_lenP hx
  have hlu := slI_len hu
  by_cases hku : (l.length : Int) > 1048576
  · refine is.go hm hΓ k_x_HoldPlay o_x_HoldPlay (by simp [a_x_HoldPlay]) ?_
    simp only [a_x_HoldPlay, h_szState, c_szState, h_toState, c_toState, h_toIntS, c_toIntS, h_s_HoldPlay, c_s_HoldPlay, h_HoldPlay, c_HoldPlay, h_eqBoolS, c_eqBoolS, h_eqState, c_eqState, h_eqIntS, c_eqIntS, h_markState, c_markState, h_markIntS, c_markIntS, h_markBoolS, c_markBoolS, h_heldBoolS, c_heldBoolS, h_heldState, c_heldState, hlp, hlu, hc, hku, Int.reduceLE, Int.reduceNeg, Int.reduceLT, List.zipIdx_cons, List.zipIdx_nil, ↓SP, SQ, Gam.add, stepM, callC, argC, lendO, nmBy, nmC, likeL, likeB, plainOb, offs, exL, X, F, trP, trO, stepD, stepW, newA, SV.tr, SV.trL, fz, allP, Ob.tr, loadA, cellsA, SV.cells, binA, binI, eqOut, isSl, isPt, natOf, callee, snap, SV.refsL, SV.refs, thaw, fzAll, loA, hiA, elemOf, partsA, buildA, putCells, ↓reduceIte, reduceCtorEq, okCell, Nat.reduceAdd, Nat.reduceEqDiff, Nat.reduceSub, Nat.reduceMul, Nat.reduceLeDiff, Nat.reduceLT, Nat.reduceBEq, PV.scal, PV.scalL, SV.scal, SV.scalL, Ob.scal, PV.isCell, pure', resO]
    exact finA_val (by simp [retA, rvA, mkE_cons, mk_nil, mkO_cons, mkO_nil, loadA, SV.tr, SV.trL, nmF, rn_nil, rn_cons1, rn_cons2, plainOb, SV.refsL, SV.refs, Ob.refs, X, F, List.range_succ, mkO, setO_mk]) (by simp [SV.tr, SV.trL])
  · by_cases hk : (1048576 : Int) - (x.length : Int) < 0
    · refine is.go hm hΓ k_x_HoldPlay o_x_HoldPlay (by simp [a_x_HoldPlay]) ?_
      simp only [a_x_HoldPlay, h_szState, c_szState, h_toState, c_toState, h_toIntS, c_toIntS, h_s_HoldPlay, c_s_HoldPlay, h_HoldPlay, c_HoldPlay, h_eqBoolS, c_eqBoolS, h_eqState, c_eqState, h_eqIntS, c_eqIntS, h_markState, c_markState, h_markIntS, c_markIntS, h_markBoolS, c_markBoolS, h_heldBoolS, c_heldBoolS, h_heldState, c_heldState, hlp, hlu, hc, hk, hku, Int.reduceLE, Int.reduceNeg, Int.reduceLT, List.zipIdx_cons, List.zipIdx_nil, ↓SP, SQ, Gam.add, stepM, callC, argC, lendO, nmBy, nmC, likeL, likeB, plainOb, offs, exL, X, F, trP, trO, stepD, stepW, newA, SV.tr, SV.trL, fz, allP, Ob.tr, loadA, cellsA, SV.cells, binA, binI, eqOut, isSl, isPt, natOf, callee, snap, SV.refsL, SV.refs, thaw, fzAll, loA, hiA, elemOf, partsA, buildA, putCells, ↓reduceIte, reduceCtorEq, okCell, Nat.reduceAdd, Nat.reduceEqDiff, Nat.reduceSub, Nat.reduceMul, Nat.reduceLeDiff, Nat.reduceLT, Nat.reduceBEq, PV.scal, PV.scalL, SV.scal, SV.scalL, Ob.scal, PV.isCell, pure', resO]
      exact finA_val (by simp [retA, rvA, mkE_cons, mk_nil, mkO_cons, mkO_nil, loadA, SV.tr, SV.trL, nmF, rn_nil, rn_cons1, rn_cons2, plainOb, SV.refsL, SV.refs, Ob.refs, X, F, List.range_succ, mkO, setO_mk]) (by simp [SV.tr, SV.trL])
    · have hlen : x.length ≤ 1048576 := by omega
      have hlen2 : x.length ≤ 1100000 := by omega
      have hlen3 : l.length ≤ 1048576 := by omega
      have hlen4 : l.length ≤ 1100000 := by omega
      have hml := marks_len 1 x.length
      have hml2 := marks_len (1 + x.length) l.length
      have q0 : (0 : Int) ≤ 1 + x.length := by omega
      have q1 : (1 : Int) + x.length ≤ 10000000 := by omega
      have q2 : ¬ (1 : Int) + x.length + l.length < 0 := by omega
      have hnb : heldB [] 1 := fun j hj => by simp at hj
      have hni1 : held [] 1 := fun j hj => by simp at hj
      cases hg2 : hpOk x m l with
      | true =>
        have hg3 := hg2
        simp only [hpOk, Bool.and_eq_true, decide_eq_true_eq] at hg3
        obtain ⟨hL, h8⟩ := hg3
        obtain ⟨hst, _⟩ := isL_st hL
        obtain ⟨y1, y2, y3⟩ := hpN_ok (l := l) hst h8 l.length
        have y4 := (st_out y1).1
        have y5 : (hpN m x l l.length).1.length ≤ 1100000 := by omega
        have hmb := marksB_len 1 l.length
        have hhb := heldB_marks 1 l.length
        have hms := marks_len (1 + l.length) (hpN m x l l.length).1.length
        have hhs := held_marks (1 + l.length) (hpN m x l l.length).1.length
        have q3 : ¬ (1 : Int) + l.length < 0 := by omega
        have q4 : ¬ (1 : Int) + l.length + (hpN m x l l.length).1.length < 0 := by omega
        have q5 : (0 : Int) ≤ 1 + l.length := by omega
        have q6 : (1 : Int) + l.length ≤ 10000000 := by omega
        refine is.go hm hΓ k_x_HoldPlay o_x_HoldPlay (by simp [a_x_HoldPlay]) ?_
        simp only [a_x_HoldPlay, h_szState, c_szState, h_toState, c_toState, h_toIntS, c_toIntS, h_s_HoldPlay, c_s_HoldPlay, h_HoldPlay, c_HoldPlay, h_eqBoolS, c_eqBoolS, h_eqState, c_eqState, h_eqIntS, c_eqIntS, h_markState, c_markState, h_markIntS, c_markIntS, h_markBoolS, c_markBoolS, h_heldBoolS, c_heldBoolS, h_heldState, c_heldState, hx, hu, hlp, hlu, hc, hk, hku, hlen, hlen2, hlen3, hlen4, hg2, hml, hml2, q0, q1, q2, q3, q4, q5, q6, y3, y5, hmb, hhb, hms, hhs, bools_len, ints_len, slI_sl, slB_sl, beq_self_eq_true, Bool.not_true, Int.reduceLE, Int.reduceNeg, Int.reduceLT, bne_self_eq_false, List.zipIdx_cons, List.zipIdx_nil, ↓SP, SQ, Gam.add, stepM, callC, argC, lendO, nmBy, nmC, likeL, likeB, plainOb, offs, exL, X, F, trP, trO, stepD, stepW, newA, SV.tr, SV.trL, fz, allP, Ob.tr, loadA, cellsA, SV.cells, binA, binI, eqOut, isSl, isPt, natOf, callee, snap, SV.refsL, SV.refs, thaw, fzAll, loA, hiA, elemOf, partsA, buildA, putCells, ↓reduceIte, reduceCtorEq, okCell, Nat.reduceAdd, Nat.reduceEqDiff, Nat.reduceSub, Nat.reduceMul, Nat.reduceLeDiff, Nat.reduceLT, Nat.reduceBEq, PV.scal, PV.scalL, SV.scal, SV.scalL, Ob.scal, PV.isCell, pure', resO]
        exact finA_val (by simp [retA, rvA, mkE_cons, mk_nil, mkO_cons, mkO_nil, loadA, SV.tr, SV.trL, nmF, rn_nil, rn_cons1, rn_cons2, plainOb, SV.refsL, SV.refs, Ob.refs, X, F, List.range_succ, mkO, setO_mk]) (by simp [SV.tr, SV.trL])
      | false =>
        have z0 : (1 : Int) + ((0 : Nat) : Int) = 1 := rfl
        have hb0 : slB (.sl 1 []) = some [] := rfl
        refine is.go hm hΓ k_x_HoldPlay o_x_HoldPlay (by simp [a_x_HoldPlay]) ?_
        simp only [a_x_HoldPlay, h_szState, c_szState, h_toState, c_toState, h_toIntS, c_toIntS, h_s_HoldPlay, c_s_HoldPlay, h_HoldPlay, c_HoldPlay, h_eqBoolS, c_eqBoolS, h_eqState, c_eqState, h_eqIntS, c_eqIntS, h_markState, c_markState, h_markIntS, c_markIntS, h_markBoolS, c_markBoolS, h_heldBoolS, c_heldBoolS, h_heldState, c_heldState, hx, hu, hlp, hlu, hc, hk, hku, hlen, hlen2, hlen3, hlen4, hg2, hml, hml2, q0, q1, q2, hnb, hni1, z0, hb0, bools_len, slI_sl, slB_sl, slB_nil, slI_nil, Bool.false_eq_true, beq_self_eq_true, Bool.not_true, Int.reduceLE, Int.reduceNeg, Int.reduceLT, bne_self_eq_false, List.zipIdx_cons, List.zipIdx_nil, ↓SP, SQ, Gam.add, stepM, callC, argC, lendO, nmBy, nmC, likeL, likeB, plainOb, offs, exL, X, F, trP, trO, stepD, stepW, newA, SV.tr, SV.trL, fz, allP, Ob.tr, loadA, cellsA, SV.cells, binA, binI, eqOut, isSl, isPt, natOf, callee, snap, SV.refsL, SV.refs, thaw, fzAll, loA, hiA, elemOf, partsA, buildA, putCells, ↓reduceIte, reduceCtorEq, okCell, Nat.reduceAdd, Nat.reduceEqDiff, Nat.reduceSub, Nat.reduceMul, Nat.reduceLeDiff, Nat.reduceLT, Nat.reduceBEq, PV.scal, PV.scalL, SV.scal, SV.scalL, Ob.scal, PV.isCell, pure', resO]
        exact finA_val (by simp [retA, rvA, mkE_cons, mk_nil, mkO_cons, mkO_nil, loadA, SV.tr, SV.trL, nmF, rn_nil, rn_cons1, rn_cons2, plainOb, SV.refsL, SV.refs, Ob.refs, X, F, List.range_succ, mkO, setO_mk]) (by simp [SV.tr, SV.trL])
end Go.Proofs.Ytihpfhdkjlphhaa.Pam
