/- A part of the proof that stands in this folder: a small machine whose steps are shown to be the steps of the model, or walks of functions by it. No condition of its own. -/
import Derived.Test.YtgnclbdhpdjafaaGbNB
set_option linter.unusedVariables false
set_option linter.unusedSimpArgs false
namespace Go.Proofs.Ytgnclbdhpdjafaa.Pam
open Go
def a_lof (f_less : FuncId) (f_bothA : FuncId) (f_isEqualS : FuncId) (f_lneed : FuncId) : AFn := ⟨3, 
  .seq (.reg [⟨some 3, none, .w (.box 1 (.t 0))⟩,
    ⟨some 4, none, .w (.box 2 (.t 1))⟩,
    ⟨some 6, none, .d (.mv (.c (.int .i64 0)))⟩,
    ⟨some 7, none, .d (.mv (.c (.bool false)))⟩])
  (.seq (.dreg [8] [([8], ⟨some 9, none, .d (.load true 2 (.t 4))⟩),
    ([8], ⟨some 10, none, .d (.mv (.t 2))⟩),
    ([8], ⟨some 11, none, .d (.call (.f f_less) [(.t 10)])⟩),
    ([8], ⟨some 12, none, .d (.call (.f f_bothA) [(.t 9), (.t 11)])⟩),
    ([], ⟨some 8, none, .w (.alloc [.nilsl, .int .i64 0, .nilsl, .int .i64 0])⟩)] [⟨none, none, .w (.store 4 (.t 8) (.t 12))⟩])
  (.seq (.seq (.reg [⟨some 13, none, .d (.iaA 2 2 (.t 8) (.c (.int .i64 0)))⟩,
    ⟨some 14, none, .d (.load true 2 (.t 13))⟩,
    ⟨some 15, none, .d (.load true 2 (.t 4))⟩,
    ⟨some 16, none, .d (.call (.f f_isEqualS) [(.t 14), (.t 15)])⟩,
    ⟨some 17, none, .d (.mv (.t 16))⟩,
    ⟨some 18, some (17, false), .d (.iaA 2 2 (.t 8) (.c (.int .i64 1)))⟩,
    ⟨some 19, some (17, false), .d (.load true 2 (.t 18))⟩,
    ⟨some 20, some (17, false), .d (.load true 2 (.t 4))⟩,
    ⟨some 21, some (17, false), .d (.call (.f f_isEqualS) [(.t 19), (.t 20)])⟩,
    ⟨some 22, none, .d (.pick (.t 17) (.c (.bool true)) (.t 21))⟩])
  (.cond (.t 22) (.seq (.reg [⟨some 6, none, .d (.mv (.c (.int .i64 0)))⟩,
     ⟨some 7, none, .d (.mv (.c (.bool false)))⟩])
   (.ret)) (.skip)))
  (.seq (.dreg [] [([], ⟨some 23, none, .d (.load true 1 (.t 3))⟩),
    ([], ⟨some 24, none, .d (.iaA 2 2 (.t 8) (.c (.int .i64 0)))⟩),
    ([], ⟨some 25, none, .d (.load true 2 (.t 24))⟩),
    ([], ⟨some 26, none, .w (.callL (.f f_lneed) [(.t 23), (.t 25)] [1000000] 0 false)⟩),
    ([1000000], ⟨some 27, none, .d (.load true 1 (.t 3))⟩),
    ([1000000], ⟨some 28, none, .d (.iaA 2 2 (.t 8) (.c (.int .i64 1)))⟩),
    ([1000000], ⟨some 29, none, .d (.load true 2 (.t 28))⟩)] [⟨some 30, none, .w (.callL (.f f_lneed) [(.t 27), (.t 29)] [1000000] 0 false)⟩,
    ⟨some 31, none, .d (.max2 (.t 26) (.t 30))⟩,
    ⟨some 32, none, .d (.bin .arith .add (.c (.int .i64 1)) (.t 31))⟩,
    ⟨some 6, none, .d (.mv (.t 32))⟩,
    ⟨some 7, none, .d (.mv (.c (.bool true)))⟩])
  (.ret)))), [.tmp 6, .tmp 7]⟩
def n_lof : Nat → Option Ann := fun d => if d = 26 then some ⟨[1000000], 0, false⟩ else if d = 30 then some ⟨[1000000], 0, false⟩ else none
abbrev k_lof : List Nat := [0, 1, 2, 3, 4, 6, 7, 8, 22]
abbrev o_lof : List Nat := [3, 4, 8]
def a_lneed (f_opened : FuncId) (f_codeS : FuncId) (f_lof : FuncId) : AFn := ⟨2, 
  .seq (.reg [⟨some 2, none, .w (.box 1 (.t 0))⟩,
    ⟨some 3, none, .w (.box 2 (.t 1))⟩,
    ⟨some 4, none, .d (.mv (.c (.int .i64 0)))⟩])
  (.seq (.seq (.reg [⟨some 11, none, .d (.load true 2 (.t 3))⟩,
    ⟨some 12, none, .d (.call (.f f_opened) [(.t 11)])⟩,
    ⟨some 13, none, .d (.len (.t 12))⟩,
    ⟨some 14, none, .d (.bin .arith .leq (.t 13) (.c (.int .i64 1)))⟩])
  (.cond (.t 14) (.seq (.reg [⟨some 4, none, .d (.mv (.c (.int .i64 0)))⟩])
   (.ret)) (.skip)))
  (.seq (.seq (.dreg [] [([], ⟨some 16, none, .d (.fa 0 (.t 2))⟩),
    ([], ⟨some 17, none, .d (.load false 1 (.t 16))⟩),
    ([], ⟨some 18, none, .d (.load true 2 (.t 3))⟩),
    ([], ⟨some 19, none, .d (.call (.f f_codeS) [(.t 18)])⟩),
    ([], ⟨some 20, none, .d (.lookup (.int .i64 0) true none (.t 17) (.t 19))⟩),
    ([], ⟨some 15, none, .d (.mv (.t 20))⟩),
    ([], ⟨some 21, none, .d (.extract (.t 15) 0)⟩),
    ([], ⟨some 22, none, .d (.extract (.t 15) 1)⟩),
    ([], ⟨some 5, none, .d (.mv (.t 21))⟩)] [⟨some 6, none, .d (.mv (.t 22))⟩])
  (.seq (.reg [⟨some 23, none, .d (.mv (.t 6))⟩])
  (.cond (.t 23) (.seq (.reg [⟨some 24, none, .d (.mv (.t 5))⟩,
     ⟨some 4, none, .d (.mv (.t 24))⟩])
   (.ret)) (.skip))))
  (.seq (.reg [⟨some 7, none, .d (.mv (.c (.int .i64 (-1))))⟩])
  (.seq (.seq (.reg [⟨some 8, none, .d (.mv (.c (.int .i64 1)))⟩])
  (.block 0 (.loop (.seq (.seq (.reg [⟨some 25, none, .d (.mv (.t 8))⟩,
      ⟨some 26, none, .d (.fa 0 (.t 3))⟩,
      ⟨some 27, none, .d (.load false 1 (.t 26))⟩,
      ⟨some 28, none, .d (.len (.t 27))⟩,
      ⟨some 29, none, .d (.bin .arith .lss (.t 25) (.t 28))⟩])
    (.cond (.t 29) (.skip) (.exit 0)))
    (.seq (.block 1 (.seq (.reg [⟨some 33, none, .d (.load true 1 (.t 2))⟩,
       ⟨some 34, none, .d (.load true 2 (.t 3))⟩,
       ⟨some 35, none, .d (.mv (.t 8))⟩,
       ⟨some 36, none, .w (.callL (.f f_lof) [(.t 33), (.t 34), (.t 35)] [1000000] 0 false)⟩,
       ⟨some 32, none, .d (.mv (.t 36))⟩,
       ⟨some 37, none, .d (.extract (.t 32) 0)⟩,
       ⟨some 38, none, .d (.extract (.t 32) 1)⟩,
       ⟨some 9, none, .d (.mv (.t 37))⟩,
       ⟨some 10, none, .d (.mv (.t 38))⟩])
     (.seq (.reg [⟨some 39, none, .d (.mv (.t 10))⟩,
       ⟨some 40, none, .d (.mv (.t 39))⟩,
       ⟨some 41, some (40, true), .d (.mv (.t 7))⟩,
       ⟨some 42, some (40, true), .d (.bin .arith .lss (.t 41) (.c (.int .i64 0)))⟩,
       ⟨some 43, some (40, true), .d (.mv (.t 42))⟩,
       ⟨some 44, some (43, false), .d (.mv (.t 9))⟩,
       ⟨some 45, some (43, false), .d (.mv (.t 7))⟩,
       ⟨some 46, some (43, false), .d (.bin .arith .lss (.t 44) (.t 45))⟩,
       ⟨some 47, some (40, true), .d (.pick (.t 43) (.c (.bool true)) (.t 46))⟩,
       ⟨some 48, none, .d (.pick (.t 40) (.t 47) (.c (.bool false)))⟩])
     (.cond (.t 48) (.reg [⟨some 49, none, .d (.mv (.t 9))⟩,
        ⟨some 7, none, .d (.mv (.t 49))⟩]) (.skip)))))
    (.reg [⟨some 30, none, .d (.mv (.t 8))⟩,
      ⟨some 31, none, .d (.bin .arith .add (.t 30) (.c (.int .i64 1)))⟩,
      ⟨some 8, none, .d (.mv (.t 31))⟩]))))))
  (.seq (.dreg [] [([], ⟨some 50, none, .d (.fa 0 (.t 2))⟩),
    ([], ⟨some 51, none, .d (.load false 1 (.t 50))⟩),
    ([], ⟨some 52, none, .d (.load true 2 (.t 3))⟩),
    ([], ⟨some 53, none, .d (.call (.f f_codeS) [(.t 52)])⟩),
    ([], ⟨some 54, none, .d (.mv (.t 7))⟩)] [⟨none, none, .w (.mapup none (.t 51) (.t 53) (.t 54))⟩])
  (.seq (.reg [⟨some 55, none, .d (.mv (.t 7))⟩,
    ⟨some 4, none, .d (.mv (.t 55))⟩])
  (.ret))))))), [.tmp 4]⟩
def n_lneed : Nat → Option Ann := fun d => if d = 36 then some ⟨[1000000], 0, false⟩ else none
abbrev k_lneed : List Nat := [0, 1, 2, 3, 4, 5, 6, 7, 8, 9, 10, 14, 23, 29, 48]
abbrev o_lneed : List Nat := [2, 3]
def a_lbest (f_lof : FuncId) (f_lneed : FuncId) : AFn := ⟨2, 
  .seq (.reg [⟨some 2, none, .w (.box 1 (.t 0))⟩,
    ⟨some 3, none, .w (.box 2 (.t 1))⟩,
    ⟨some 4, none, .d (.mv (.c (.int .i64 0)))⟩])
  (.seq (.seq (.reg [⟨some 5, none, .d (.mv (.c (.int .i64 1)))⟩])
  (.block 0 (.loop (.seq (.seq (.reg [⟨some 8, none, .d (.mv (.t 5))⟩,
      ⟨some 9, none, .d (.fa 0 (.t 3))⟩,
      ⟨some 10, none, .d (.load false 1 (.t 9))⟩,
      ⟨some 11, none, .d (.len (.t 10))⟩,
      ⟨some 12, none, .d (.bin .arith .lss (.t 8) (.t 11))⟩])
    (.cond (.t 12) (.skip) (.exit 0)))
    (.seq (.block 1 (.seq (.reg [⟨some 16, none, .d (.load true 1 (.t 2))⟩,
       ⟨some 17, none, .d (.load true 2 (.t 3))⟩,
       ⟨some 18, none, .d (.mv (.t 5))⟩,
       ⟨some 19, none, .w (.callL (.f f_lof) [(.t 16), (.t 17), (.t 18)] [1000000] 0 false)⟩,
       ⟨some 15, none, .d (.mv (.t 19))⟩,
       ⟨some 20, none, .d (.extract (.t 15) 0)⟩,
       ⟨some 21, none, .d (.extract (.t 15) 1)⟩,
       ⟨some 6, none, .d (.mv (.t 20))⟩,
       ⟨some 7, none, .d (.mv (.t 21))⟩])
     (.seq (.reg [⟨some 22, none, .d (.mv (.t 7))⟩,
       ⟨some 23, none, .d (.mv (.t 22))⟩,
       ⟨some 24, some (23, true), .d (.mv (.t 6))⟩,
       ⟨some 25, some (23, true), .d (.load true 1 (.t 2))⟩,
       ⟨some 26, some (23, true), .d (.load true 2 (.t 3))⟩,
       ⟨some 27, some (23, true), .w (.callL (.f f_lneed) [(.t 25), (.t 26)] [1000000] 0 false)⟩,
       ⟨some 28, some (23, true), .d (.bin .arith .eql (.t 24) (.t 27))⟩,
       ⟨some 29, none, .d (.pick (.t 23) (.t 28) (.c (.bool false)))⟩])
     (.cond (.t 29) (.seq (.reg [⟨some 30, none, .d (.mv (.t 5))⟩,
        ⟨some 4, none, .d (.mv (.t 30))⟩])
      (.ret)) (.skip)))))
    (.reg [⟨some 13, none, .d (.mv (.t 5))⟩,
      ⟨some 14, none, .d (.bin .arith .add (.t 13) (.c (.int .i64 1)))⟩,
      ⟨some 5, none, .d (.mv (.t 14))⟩]))))))
  (.seq (.reg [⟨some 4, none, .d (.mv (.c (.int .i64 0)))⟩])
  (.ret))), [.tmp 4]⟩
def n_lbest : Nat → Option Ann := fun d => if d = 19 then some ⟨[1000000], 0, false⟩ else if d = 27 then some ⟨[1000000], 0, false⟩ else none
abbrev k_lbest : List Nat := [0, 1, 2, 3, 4, 5, 6, 7, 12, 29]
abbrev o_lbest : List Nat := [2, 3]
open Classical in
noncomputable def c_lneed : Con := fun args ext => match args, ext with
  | [.ag [.mp 1000000], .p (.agg [.sl 1 x_, .int .i64 m])], [.map es] => if isI x_ = true ∧ isES es = true ∧ isSh (ofI x_) m = true ∧ okLM m x_.length (ofES es) then some (.p (.int .i64 (lnT m (ofI x_))), [.map (entE (needE m (ofI x_) (ofES es)).2)], []) else none
  | _, _ => none
open Classical in
noncomputable def c_lof : Con := fun args ext => match args, ext with
  | [.ag [.mp 1000000], .p (.agg [.sl 1 x_, .int .i64 m]), .p (.int .i64 k)], [.map es] => if isI x_ = true ∧ isES es = true ∧ isSh (ofI x_) m = true ∧ okLM m x_.length (ofES es) ∧ 1 ≤ k ∧ k < x_.length then some (.tp [.p (.int .i64 (if vldT m (ofI x_) k.toNat = true then oneT m (ofI x_) k.toNat else 0)), .p (.bool (vldT m (ofI x_) k.toNat))], [.map (entE (ofE' m (ofI x_) k.toNat (ofES es)).2)], []) else none
  | _, _ => none
def muN : List SV → List Ob → Nat := fun args _ => match args with
  | [_, .p (.agg [.sl 1 x_, .int _ m])] => msL m (ofI x_)
  | _ => 0
noncomputable def c_lofK (j : Nat) : Con := fun args ext => match args with
  | [_, .p (.agg [.sl 1 x_, .int _ m]), _] => if msL m (ofI x_) ≤ j then c_lof args ext else none
  | _ => none
theorem max_mx (a b : Int) : (if b > a then b else a) = mxT a b := by
  simp only [mxT]
  split <;> split <;> omega
theorem mxT_bd {a b : Int} (h1 : 0 ≤ a ∧ a ≤ 100) (h2 : 0 ≤ b ∧ b ≤ 100) : 0 ≤ mxT a b ∧ mxT a b ≤ 100 := by
  simp only [mxT]; split <;> omega
theorem oneT_bd {m : Int} {x : List Int} {k : Nat} (h : isSh x m = true) (h1 : 1 ≤ k) (h2 : k < x.length) : 1 ≤ oneT m x k ∧ oneT m x k ≤ 101 := by
  have C := CS.of h
  have := mxT_bd (CS.of (C.sh k h1 h2 false)).lt (CS.of (C.sh k h1 h2 true)).lt
  simp only [oneT]; omega
theorem ky_dec {m : Int} {x : List Int} {k : Nat} {y : Bool} (h : isSh x m = true) (h1 : 1 ≤ k) (h2 : k < x.length) : decide (kyL 3 (aftL m k y x) = kyL 3 x) = decide (aftL m k y x = x) := by
  rw [Bool.eq_iff_iff, decide_eq_true_eq, decide_eq_true_eq]
  exact ⟨fun e => ky_inj (b := 3) (by omega) (sh_in ((CS.of h).sh k h1 h2 y)).2 (sh_in h).2 (aftL_len ..) e, fun e => by rw [e]⟩
theorem lof_walk {P : Program} (hm : P.follows .mixedOrders = true) {Γ : Gam} (hΓ : GS P Γ) {n f_less f_bothA f_isEqualS f_lneed : FuncId} {j : Nat} (is : Is P n (a_lof f_less f_bothA f_isEqualS f_lneed)) (h_less : Γ f_less = c_less) (h_bothA : Γ f_bothA = c_bothA) (h_isEqualS : Γ f_isEqualS = c_isEqualS) (h_lneed : Γ f_lneed = lim muN j c_lneed) : Says P n (c_lofK j) := by
  intro args ext r ext' fs h
  unfold c_lofK at h
  split at h
  case h_2 => cases h
  rename_i u x_ ki m v
  split at h
  case isFalse => cases h
  rename_i hmu
  unfold c_lof at h
  split at h
  case h_2 => cases h
  rename_i x_' m' k es heq
  split at h
  case isFalse => cases h
  rename_i hc
  injection heq with e1 e2; injection e2 with e2 e3; injection e3 with e3 e4
  injection e2 with e2; injection e2 with e2; injection e2 with e5 e6; injection e6 with e6 e7
  injection e5 with e5 e8; injection e6 with e6 e9
  subst e1; subst e8; subst e6; subst e9; subst e3
  obtain ⟨hx_, hes, hs, hok, hk1, hk2⟩ := hc
  obtain ⟨x, rfl⟩ := isI_out hx_
  have hes2 := isES_out hes
  generalize ofES es = E at hes2 hok h
  subst hes2
  rw [ints_len] at hok hk2
  simp only [ofI_ints, Option.some.injEq, Prod.mk.injEq] at h hs hmu
  obtain ⟨rfl, rfl, rfl⟩ := h
  obtain ⟨k, rfl⟩ : ∃ q : Nat, k = q := ⟨k.toNat, by omega⟩
  simp only [Int.toNat_natCast]
  have g1 : 1 ≤ k := by omega
  have g2 : k < x.length := by omega
  obtain ⟨hl1, hl5, hmm, _⟩ := sh_out hs
  have C := CS.of hs
  have h05 : (0 : Int) ≤ (k : Int) ∧ (k : Int) ≤ 5 := by omega
  have h1000 := sh_1000 hs
  have hlen := sh_len hs
  have ha0 := aft_ls (k := k) (by omega) (m := m) (y := false) hl5
  have ha1 := aft_ls (k := k) (by omega) (m := m) (y := true) hl5
  have hs0 := C.sh k g1 g2 false
  have hs1 := C.sh k g1 g2 true
  have hk0 := ky_dec (y := false) hs g1 g2
  have hk1' := ky_dec (y := true) hs g1 g2
  refine is.goX hm hΓ k_lof (1000000 :: o_lof) (by simp [a_lof]) (by simp) ?_
  by_cases q0 : aftL m k false x = x
  · have hv : vldT m x k = false := by simp [vldT, q0]
    have hE : ofE' m x k E = (none, E) := by simp only [ofE', ofG, if_pos (Or.inl q0)]
    have hd : decide (aftL m k false x = x) = true := dec_t q0
    rw [hv, hE]
    simp only [a_lof, h_less, c_less, h_bothA, c_bothA, h_isEqualS, c_isEqualS, h05, h1000, hlen, ha0, ha1, hs, hs0, hs1, hk0, hd, Int.toNat_natCast, Int.le_refl, Int.toNat_zero, Int.toNat_one, Int.reduceLE, Int.reduceToNat, Nat.zero_mul, Nat.one_mul, isI_ints, ofI_ints, List.zipIdx_cons, List.zipIdx_nil, ↓SP, SQ, Gam.add, stepM, callC, argC, lendO, nmBy, nmC, likeL, likeB, plainOb, offs, exL, X, F, trP, trO, stepD, stepW, newA, SV.tr, SV.trL, fz, allP, Ob.tr, loadA, cellsA, SV.cells, binA, binI, eqOut, isSl, isPt, natOf, callee, snap, SV.refsL, SV.refs, thaw, fzAll, loA, hiA, elemOf, partsA, buildA, putCells, ↓reduceIte, reduceCtorEq, okCell, Nat.reduceAdd, Nat.reduceEqDiff, Nat.reduceSub, Nat.reduceMul, Nat.reduceLeDiff, Nat.reduceLT, Nat.reduceBEq, PV.scal, PV.scalL, SV.scal, SV.scalL, Ob.scal, PV.isCell, pure', resO]
    refine finA_gen [] trivial (by simp [retA, rvA, List.mapM_cons, List.mapM_nil, Option.pure_def, Option.bind_eq_bind, Option.bind_some, Option.map_some, mkE_cons, mk_nil, mkO_cons, mkO_nil, loadA, ↓reduceIte, List.take_succ_cons, List.take_zero, List.drop_zero, List.drop_succ_cons, List.length_cons, List.length_nil, Nat.reduceAdd, Nat.reduceEqDiff, Nat.reduceLeDiff, Nat.zero_add, Nat.le_refl, reduceCtorEq, SV.tr, SV.trL, nmF, rn_nil, rn_cons1, rn_cons2, List.map_cons, List.map_nil, List.all_cons, List.all_nil, plainOb, SV.refsL, SV.refs, Ob.refs, X, F, List.range_succ, List.range_zero, List.nil_append, List.cons_append, List.isEmpty_nil, decide_true, Nat.reduceLT, Bool.and_self, Bool.and_true, and_self, and_true, List.getElem?_cons_zero, List.getElem?_cons_succ, List.nodup_cons, List.nodup_nil, List.mem_cons, List.not_mem_nil, not_false_eq_true, or_false, List.append_nil, mkO, setO_mk, List.mem_singleton]; rfl) ?_ ?_ ?_ ?_ ?_ ?_ ?_ <;> simp [retA, rvA, List.mapM_cons, List.mapM_nil, Option.pure_def, Option.bind_eq_bind, Option.bind_some, Option.map_some, mkE_cons, mk_nil, mkO_cons, mkO_nil, loadA, ↓reduceIte, List.take_succ_cons, List.take_zero, List.drop_zero, List.drop_succ_cons, List.length_cons, List.length_nil, Nat.reduceAdd, Nat.reduceEqDiff, Nat.reduceLeDiff, Nat.zero_add, Nat.le_refl, reduceCtorEq, SV.tr, SV.trL, nmF, rn_nil, rn_cons1, rn_cons2, List.map_cons, List.map_nil, List.all_cons, List.all_nil, plainOb, SV.refsL, SV.refs, Ob.refs, X, F, List.range_succ, List.range_zero, List.nil_append, List.cons_append, List.isEmpty_nil, decide_true, Nat.reduceLT, Bool.and_self, Bool.and_true, and_self, and_true, List.getElem?_cons_zero, List.getElem?_cons_succ, List.nodup_cons, List.nodup_nil, List.mem_cons, List.not_mem_nil, not_false_eq_true, or_false, List.append_nil, mkO, setO_mk, List.mem_singleton]
  · by_cases q1 : aftL m k true x = x
    · have hv : vldT m x k = false := by simp [vldT, q1]
      have hE : ofE' m x k E = (none, E) := by simp only [ofE', ofG, if_pos (Or.inr q1)]
      have hd : decide (aftL m k false x = x) = false := dec_f q0
      have hd1 : decide (aftL m k true x = x) = true := dec_t q1
      rw [hv, hE]
      simp only [a_lof, h_less, c_less, h_bothA, c_bothA, h_isEqualS, c_isEqualS, h05, h1000, hlen, ha0, ha1, hs, hs0, hs1, hk0, hk1', hd, hd1, Int.toNat_natCast, Int.le_refl, Int.toNat_zero, Int.toNat_one, Int.reduceLE, Int.reduceToNat, Nat.zero_mul, Nat.one_mul, isI_ints, ofI_ints, List.zipIdx_cons, List.zipIdx_nil, ↓SP, SQ, Gam.add, stepM, callC, argC, lendO, nmBy, nmC, likeL, likeB, plainOb, offs, exL, X, F, trP, trO, stepD, stepW, newA, SV.tr, SV.trL, fz, allP, Ob.tr, loadA, cellsA, SV.cells, binA, binI, eqOut, isSl, isPt, natOf, callee, snap, SV.refsL, SV.refs, thaw, fzAll, loA, hiA, elemOf, partsA, buildA, putCells, ↓reduceIte, reduceCtorEq, okCell, Nat.reduceAdd, Nat.reduceEqDiff, Nat.reduceSub, Nat.reduceMul, Nat.reduceLeDiff, Nat.reduceLT, Nat.reduceBEq, PV.scal, PV.scalL, SV.scal, SV.scalL, Ob.scal, PV.isCell, pure', resO]
      refine finA_gen [] trivial (by simp [retA, rvA, List.mapM_cons, List.mapM_nil, Option.pure_def, Option.bind_eq_bind, Option.bind_some, Option.map_some, mkE_cons, mk_nil, mkO_cons, mkO_nil, loadA, ↓reduceIte, List.take_succ_cons, List.take_zero, List.drop_zero, List.drop_succ_cons, List.length_cons, List.length_nil, Nat.reduceAdd, Nat.reduceEqDiff, Nat.reduceLeDiff, Nat.zero_add, Nat.le_refl, reduceCtorEq, SV.tr, SV.trL, nmF, rn_nil, rn_cons1, rn_cons2, List.map_cons, List.map_nil, List.all_cons, List.all_nil, plainOb, SV.refsL, SV.refs, Ob.refs, X, F, List.range_succ, List.range_zero, List.nil_append, List.cons_append, List.isEmpty_nil, decide_true, Nat.reduceLT, Bool.and_self, Bool.and_true, and_self, and_true, List.getElem?_cons_zero, List.getElem?_cons_succ, List.nodup_cons, List.nodup_nil, List.mem_cons, List.not_mem_nil, not_false_eq_true, or_false, List.append_nil, mkO, setO_mk, List.mem_singleton]; rfl) ?_ ?_ ?_ ?_ ?_ ?_ ?_ <;> simp [retA, rvA, List.mapM_cons, List.mapM_nil, Option.pure_def, Option.bind_eq_bind, Option.bind_some, Option.map_some, mkE_cons, mk_nil, mkO_cons, mkO_nil, loadA, ↓reduceIte, List.take_succ_cons, List.take_zero, List.drop_zero, List.drop_succ_cons, List.length_cons, List.length_nil, Nat.reduceAdd, Nat.reduceEqDiff, Nat.reduceLeDiff, Nat.zero_add, Nat.le_refl, reduceCtorEq, SV.tr, SV.trL, nmF, rn_nil, rn_cons1, rn_cons2, List.map_cons, List.map_nil, List.all_cons, List.all_nil, plainOb, SV.refsL, SV.refs, Ob.refs, X, F, List.range_succ, List.range_zero, List.nil_append, List.cons_append, List.isEmpty_nil, decide_true, Nat.reduceLT, Bool.and_self, Bool.and_true, and_self, and_true, List.getElem?_cons_zero, List.getElem?_cons_succ, List.nodup_cons, List.nodup_nil, List.mem_cons, List.not_mem_nil, not_false_eq_true, or_false, List.append_nil, mkO, setO_mk, List.mem_singleton]
    · have hv : vldT m x k = true := by simp [vldT, q0, q1]
      have hE : ofE' m x k E = (some (1 + mxT (needE m (aftL m k false x) E).1 (needE m (aftL m k true x) (needE m (aftL m k false x) E).2).1), (needE m (aftL m k true x) (needE m (aftL m k false x) E).2).2) := by
        simp only [ofE', ofG, if_neg (not_or.2 ⟨q0, q1⟩)]
      have hd : decide (aftL m k false x = x) = false := dec_f q0
      have hd1 : decide (aftL m k true x = x) = false := dec_f q1
      have m0 : msL m (aftL m k false x) < j := Nat.lt_of_lt_of_le (C.ms k g1 g2 false q0) hmu
      have m1 : msL m (aftL m k true x) < j := Nat.lt_of_lt_of_le (C.ms k g1 g2 true q1) hmu
      have hokA : okLM m (aftL m k false x).length E := by rw [aftL_len]; exact hok
      have hn0 := needE_good hs0 hokA
      have hokB := hn0.2
      rw [aftL_len] at hokB
      have hwr : IntKind.i64.wrap (1 + mxT (lnT m (aftL m k false x)) (lnT m (aftL m k true x))) = oneT m x k := by
        have := oneT_bd hs g1 g2
        rw [show 1 + mxT (lnT m (aftL m k false x)) (lnT m (aftL m k true x)) = oneT m x k from rfl]
        exact wrap64 (by omega) (by omega)
      rw [hv, hE]
      simp only [a_lof, h_less, c_less, h_bothA, c_bothA, h_isEqualS, c_isEqualS, h_lneed, c_lneed, lim, muN, m0, m1, hok, hokB, hwr, max_mx, isES_ent, ofES_ent, aftL_len, ints_len, h05, h1000, hlen, ha0, ha1, hs, hs0, hs1, hk0, hk1', hd, hd1, Int.toNat_natCast, Int.le_refl, Int.toNat_zero, Int.toNat_one, Int.reduceLE, Int.reduceToNat, Nat.zero_mul, Nat.one_mul, isI_ints, ofI_ints, List.zipIdx_cons, List.zipIdx_nil, ↓SP, SQ, Gam.add, stepM, callC, argC, lendO, nmBy, nmC, likeL, likeB, plainOb, offs, exL, X, F, trP, trO, stepD, stepW, newA, SV.tr, SV.trL, fz, allP, Ob.tr, loadA, cellsA, SV.cells, binA, binI, eqOut, isSl, isPt, natOf, callee, snap, SV.refsL, SV.refs, thaw, fzAll, loA, hiA, elemOf, partsA, buildA, putCells, ↓reduceIte, reduceCtorEq, okCell, Nat.reduceAdd, Nat.reduceEqDiff, Nat.reduceSub, Nat.reduceMul, Nat.reduceLeDiff, Nat.reduceLT, Nat.reduceBEq, PV.scal, PV.scalL, SV.scal, SV.scalL, Ob.scal, PV.isCell, pure', resO]
      refine finA_gen [] trivial (by simp [retA, rvA, List.mapM_cons, List.mapM_nil, Option.pure_def, Option.bind_eq_bind, Option.bind_some, Option.map_some, mkE_cons, mk_nil, mkO_cons, mkO_nil, loadA, ↓reduceIte, List.take_succ_cons, List.take_zero, List.drop_zero, List.drop_succ_cons, List.length_cons, List.length_nil, Nat.reduceAdd, Nat.reduceEqDiff, Nat.reduceLeDiff, Nat.zero_add, Nat.le_refl, reduceCtorEq, SV.tr, SV.trL, nmF, rn_nil, rn_cons1, rn_cons2, List.map_cons, List.map_nil, List.all_cons, List.all_nil, plainOb, SV.refsL, SV.refs, Ob.refs, X, F, List.range_succ, List.range_zero, List.nil_append, List.cons_append, List.isEmpty_nil, decide_true, Nat.reduceLT, Bool.and_self, Bool.and_true, and_self, and_true, List.getElem?_cons_zero, List.getElem?_cons_succ, List.nodup_cons, List.nodup_nil, List.mem_cons, List.not_mem_nil, not_false_eq_true, or_false, List.append_nil, mkO, setO_mk, List.mem_singleton]; rfl) ?_ ?_ ?_ ?_ ?_ ?_ ?_ <;> simp [retA, rvA, List.mapM_cons, List.mapM_nil, Option.pure_def, Option.bind_eq_bind, Option.bind_some, Option.map_some, mkE_cons, mk_nil, mkO_cons, mkO_nil, loadA, ↓reduceIte, List.take_succ_cons, List.take_zero, List.drop_zero, List.drop_succ_cons, List.length_cons, List.length_nil, Nat.reduceAdd, Nat.reduceEqDiff, Nat.reduceLeDiff, Nat.zero_add, Nat.le_refl, reduceCtorEq, SV.tr, SV.trL, nmF, rn_nil, rn_cons1, rn_cons2, List.map_cons, List.map_nil, List.all_cons, List.all_nil, plainOb, SV.refsL, SV.refs, Ob.refs, X, F, List.range_succ, List.range_zero, List.nil_append, List.cons_append, List.isEmpty_nil, decide_true, Nat.reduceLT, Bool.and_self, Bool.and_true, and_self, and_true, List.getElem?_cons_zero, List.getElem?_cons_succ, List.nodup_cons, List.nodup_nil, List.mem_cons, List.not_mem_nil, not_false_eq_true, or_false, List.append_nil, mkO, setO_mk, List.mem_singleton]
theorem lpE_step {m : Int} {x : List Int} {E : ES} (hs : isSh x m = true) (hok : okLM m x.length E) {i : Nat} (h : i + 1 < x.length) : lpE m x E (i + 1) = (if vldT m x (i + 1) = true then betT (oneT m x (i + 1)) (lpE m x E i).1 else (lpE m x E i).1, (ofE' m x (i + 1) (lpE m x E i).2).2) := by
  have g := lpE_good hs hok (j := i) (by omega)
  have o := ofE_good hs (k := i + 1) (by omega) h g.2
  have o1 : (ofG (needE m) m x (i + 1) (lpG (needE m) m x E i).2).1 = if vldT m x (i + 1) = true then some (oneT m x (i + 1)) else none := o.1
  simp only [lpE, lpG, o1]
  by_cases hv : vldT m x (i + 1) = true
  · simp only [if_pos hv, ofE']
  · simp only [if_neg hv, ofE']
theorem bst_bd {m : Int} {x : List Int} (hs : isSh x m = true) : ∀ j, j < x.length → -1 ≤ bstJ m x j ∧ bstJ m x j ≤ 101
  | 0, _ => by simp [bstJ]
  | j + 1, h => by
    have ih := bst_bd hs j (by omega)
    have := oneT_bd hs (k := j + 1) (by omega) h
    simp only [bstJ, betT]
    split
    · split <;> omega
    · exact ih
theorem lneed_walk {P : Program} (hm : P.follows .mixedOrders = true) {Γ : Gam} (hΓ : GS P Γ) {n f_opened f_codeS f_lof : FuncId} {j : Nat} (is : Is P n (a_lneed f_opened f_codeS f_lof)) (h_opened : Γ f_opened = c_l2Open) (h_codeS : Γ f_codeS = c_codeS) (h_lof : Γ f_lof = c_lofK j) : ∀ args ext r ext' fs, c_lneed args ext = some (r, ext', fs) → muN args ext ≤ j → PC P n args ext r ext' fs := by
  intro args ext r ext' fs h hmu
  unfold c_lneed at h
  split at h
  case h_2 => cases h
  rename_i x_ m es
  split at h
  case isFalse => cases h
  rename_i hc
  obtain ⟨hx_, hes, hs, hok⟩ := hc
  obtain ⟨x, rfl⟩ := isI_out hx_
  have hes2 := isES_out hes
  generalize ofES es = E at hes2 hok h
  subst hes2
  rw [ints_len] at hok
  simp only [ofI_ints, Option.some.injEq, Prod.mk.injEq, muN] at h hs hmu
  obtain ⟨rfl, rfl, rfl⟩ := h
  obtain ⟨hl1, hl5, hmm, _⟩ := sh_out hs
  have C := CS.of hs
  have hlen := sh_len hs
  have hg0 := needE_good hs hok
  have hstep := needE_step hs E
  have hlo := opens_len x
  refine is.goX hm hΓ k_lneed (1000000 :: o_lneed) (by simp [a_lneed]) (by simp) ?_
  by_cases ho : (opens x).length < 2
  · have ho1 : ((opens x).length : Int) ≤ 1 := by omega
    rw [if_pos ho] at hstep
    have hz := C.zero ho
    rw [hstep, hz]
    simp only [a_lneed, h_opened, c_l2Open, hlen, ho1, ints_len, isI_ints, ofI_ints, List.zipIdx_cons, List.zipIdx_nil, ↓SP, SQ, Gam.add, stepM, callC, argC, lendO, nmBy, nmC, likeL, likeB, plainOb, offs, exL, X, F, trP, trO, stepD, stepW, newA, SV.tr, SV.trL, fz, allP, Ob.tr, loadA, cellsA, SV.cells, binA, binI, eqOut, isSl, isPt, natOf, callee, snap, SV.refsL, SV.refs, thaw, fzAll, loA, hiA, elemOf, partsA, buildA, putCells, ↓reduceIte, reduceCtorEq, okCell, Nat.reduceAdd, Nat.reduceEqDiff, Nat.reduceSub, Nat.reduceMul, Nat.reduceLeDiff, Nat.reduceLT, Nat.reduceBEq, PV.scal, PV.scalL, SV.scal, SV.scalL, Ob.scal, PV.isCell, pure', resO]
    refine finA_gen [] trivial (by simp [retA, rvA, List.mapM_cons, List.mapM_nil, Option.pure_def, Option.bind_eq_bind, Option.bind_some, Option.map_some, mkE_cons, mk_nil, mkO_cons, mkO_nil, loadA, ↓reduceIte, List.take_succ_cons, List.take_zero, List.drop_zero, List.drop_succ_cons, List.length_cons, List.length_nil, Nat.reduceAdd, Nat.reduceEqDiff, Nat.reduceLeDiff, Nat.zero_add, Nat.le_refl, reduceCtorEq, SV.tr, SV.trL, nmF, rn_nil, rn_cons1, rn_cons2, List.map_cons, List.map_nil, List.all_cons, List.all_nil, plainOb, SV.refsL, SV.refs, Ob.refs, X, F, List.range_succ, List.range_zero, List.nil_append, List.cons_append, List.isEmpty_nil, decide_true, Nat.reduceLT, Bool.and_self, Bool.and_true, and_self, and_true, List.getElem?_cons_zero, List.getElem?_cons_succ, List.nodup_cons, List.nodup_nil, List.mem_cons, List.not_mem_nil, not_false_eq_true, or_false, List.append_nil, mkO, setO_mk, List.mem_singleton]; rfl) ?_ ?_ ?_ ?_ ?_ ?_ ?_ <;> simp [retA, rvA, List.mapM_cons, List.mapM_nil, Option.pure_def, Option.bind_eq_bind, Option.bind_some, Option.map_some, mkE_cons, mk_nil, mkO_cons, mkO_nil, loadA, ↓reduceIte, List.take_succ_cons, List.take_zero, List.drop_zero, List.drop_succ_cons, List.length_cons, List.length_nil, Nat.reduceAdd, Nat.reduceEqDiff, Nat.reduceLeDiff, Nat.zero_add, Nat.le_refl, reduceCtorEq, SV.tr, SV.trL, nmF, rn_nil, rn_cons1, rn_cons2, List.map_cons, List.map_nil, List.all_cons, List.all_nil, plainOb, SV.refsL, SV.refs, Ob.refs, X, F, List.range_succ, List.range_zero, List.nil_append, List.cons_append, List.isEmpty_nil, decide_true, Nat.reduceLT, Bool.and_self, Bool.and_true, and_self, and_true, List.getElem?_cons_zero, List.getElem?_cons_succ, List.nodup_cons, List.nodup_nil, List.mem_cons, List.not_mem_nil, not_false_eq_true, or_false, List.append_nil, mkO, setO_mk, List.mem_singleton]
  · have ho1 : ¬ ((opens x).length : Int) ≤ 1 := by omega
    rw [if_neg ho] at hstep
    cases hlk : lkE (kyL 3 x) E with
    | some v =>
      rw [hlk] at hstep
      have hv : v = lnT m x := hok x hs rfl v hlk
      subst hv
      rw [hstep]
      simp only [a_lneed, h_opened, c_l2Open, h_codeS, c_codeS, hs, hlk, lookA, esOf, keyA, keysOk, look_entE, Option.map_some, hlen, ho1, ints_len, isI_ints, ofI_ints, List.zipIdx_cons, List.zipIdx_nil, ↓SP, SQ, Gam.add, stepM, callC, argC, lendO, nmBy, nmC, likeL, likeB, plainOb, offs, exL, X, F, trP, trO, stepD, stepW, newA, SV.tr, SV.trL, fz, allP, Ob.tr, loadA, cellsA, SV.cells, binA, binI, eqOut, isSl, isPt, natOf, callee, snap, SV.refsL, SV.refs, thaw, fzAll, loA, hiA, elemOf, partsA, buildA, putCells, ↓reduceIte, reduceCtorEq, okCell, Nat.reduceAdd, Nat.reduceEqDiff, Nat.reduceSub, Nat.reduceMul, Nat.reduceLeDiff, Nat.reduceLT, Nat.reduceBEq, PV.scal, PV.scalL, SV.scal, SV.scalL, Ob.scal, PV.isCell, pure', resO]
      refine finA_gen [] trivial (by simp [retA, rvA, List.mapM_cons, List.mapM_nil, Option.pure_def, Option.bind_eq_bind, Option.bind_some, Option.map_some, mkE_cons, mk_nil, mkO_cons, mkO_nil, loadA, ↓reduceIte, List.take_succ_cons, List.take_zero, List.drop_zero, List.drop_succ_cons, List.length_cons, List.length_nil, Nat.reduceAdd, Nat.reduceEqDiff, Nat.reduceLeDiff, Nat.zero_add, Nat.le_refl, reduceCtorEq, SV.tr, SV.trL, nmF, rn_nil, rn_cons1, rn_cons2, List.map_cons, List.map_nil, List.all_cons, List.all_nil, plainOb, SV.refsL, SV.refs, Ob.refs, X, F, List.range_succ, List.range_zero, List.nil_append, List.cons_append, List.isEmpty_nil, decide_true, Nat.reduceLT, Bool.and_self, Bool.and_true, and_self, and_true, List.getElem?_cons_zero, List.getElem?_cons_succ, List.nodup_cons, List.nodup_nil, List.mem_cons, List.not_mem_nil, not_false_eq_true, or_false, List.append_nil, mkO, setO_mk, List.mem_singleton]; rfl) ?_ ?_ ?_ ?_ ?_ ?_ ?_ <;> simp [retA, rvA, List.mapM_cons, List.mapM_nil, Option.pure_def, Option.bind_eq_bind, Option.bind_some, Option.map_some, mkE_cons, mk_nil, mkO_cons, mkO_nil, loadA, ↓reduceIte, List.take_succ_cons, List.take_zero, List.drop_zero, List.drop_succ_cons, List.length_cons, List.length_nil, Nat.reduceAdd, Nat.reduceEqDiff, Nat.reduceLeDiff, Nat.zero_add, Nat.le_refl, reduceCtorEq, SV.tr, SV.trL, nmF, rn_nil, rn_cons1, rn_cons2, List.map_cons, List.map_nil, List.all_cons, List.all_nil, plainOb, SV.refsL, SV.refs, Ob.refs, X, F, List.range_succ, List.range_zero, List.nil_append, List.cons_append, List.isEmpty_nil, decide_true, Nat.reduceLT, Bool.and_self, Bool.and_true, and_self, and_true, List.getElem?_cons_zero, List.getElem?_cons_succ, List.nodup_cons, List.nodup_nil, List.mem_cons, List.not_mem_nil, not_false_eq_true, or_false, List.append_nil, mkO, setO_mk, List.mem_singleton]
    | none =>
      rw [hlk] at hstep
      have hlast := lpE_good hs hok (j := x.length - 1) (by omega)
      have hend := bst_end hs ho
      rw [hend] at hlast
      have hstep2 : (needE m x E).2 = setE (kyL 3 x) (lnT m x) (lpE m x E (x.length - 1)).2 := by
        rw [hstep]
        simp only
        rw [show (lpG (needE m) m x E (x.length - 1)).1 = lnT m x from hlast.1]; rfl
      rw [hstep2]
      simp only [a_lneed, h_opened, c_l2Open, h_codeS, c_codeS, hs, hlk, lookA, esOf, keyA, keysOk, look_entE, Option.map_none, hlen, ho1, ints_len, isI_ints, ofI_ints, List.zipIdx_cons, List.zipIdx_nil, ↓SP, SQ, Gam.add, stepM, callC, argC, lendO, nmBy, nmC, likeL, likeB, plainOb, offs, exL, X, F, trP, trO, stepD, stepW, newA, SV.tr, SV.trL, fz, allP, Ob.tr, loadA, cellsA, SV.cells, binA, binI, eqOut, isSl, isPt, natOf, callee, snap, SV.refsL, SV.refs, thaw, fzAll, loA, hiA, elemOf, partsA, buildA, putCells, ↓reduceIte, reduceCtorEq, okCell, Nat.reduceAdd, Nat.reduceEqDiff, Nat.reduceSub, Nat.reduceMul, Nat.reduceLeDiff, Nat.reduceLT, Nat.reduceBEq, PV.scal, PV.scalL, SV.scal, SV.scalL, Ob.scal, PV.isCell, pure', resO]
      refine loop_at (fun s : Nat × SV × SV × SV × SV => mkEnv [(0, .ag [.mp 1000000]), (1, .p (.agg [.sl 1 (ints x), .int .i64 m])), (2, .bx 2 0), (3, .bx 3 0), (4, si 0), (5, si 0), (6, sb false), (7, si (lpE m x E s.1).1), (8, si ((s.1 + 1 : Nat) : Int)), (9, s.2.1), (10, s.2.2.1), (14, sb false), (23, sb false), (29, s.2.2.2.1), (48, s.2.2.2.2)]) (fun s => mkO [(1000000, some (.map (entE (lpE m x E s.1).2))), (2, some (.box [.mp 1000000])), (3, some (.box [.p (.sl 1 (ints x)), si m]))]) (fun s => s.1 < x.length) (fun s => x.length - s.1) (0, .junk, .junk, .junk, .junk) (by simp; omega) rfl rfl ?_
      rintro ⟨i, c1, c2, c3, c4⟩ hi R hR hN
      simp only at hi
      by_cases h : i + 1 < x.length
      · have h1 : ((i + 1 : Nat) : Int) < x.length := by omega
        have h1' : (1 : Int) ≤ ((i + 1 : Nat) : Int) := by omega
        have hw := wrap_one (i := i + 1) (by omega)
        obtain ⟨e1, e2⟩ := lpE_good hs hok (j := i) hi
        have hst := lpE_step hs hok h
        have hbb := bst_bd hs i hi
        have hbs := bst_bd hs (i + 1) h
        rw [← e1] at hbb
        cases hv : vldT m x (i + 1) with
        | false =>
          have hq : lpE m x E (i + 1) = ((lpE m x E i).1, (ofE' m x (i + 1) (lpE m x E i).2).2) := by rw [hst, hv]; rfl
          simp only [h1, h1', hw, hs, hmu, e2, hv, h_lof, c_lofK, c_lof, isES_ent, ofES_ent, Int.toNat_natCast, ints_len, isI_ints, ofI_ints, Bool.false_eq_true, ↓SP, SQ, Gam.add, stepM, callC, argC, lendO, nmBy, nmC, likeL, likeB, plainOb, offs, exL, X, F, trP, trO, stepD, stepW, newA, SV.tr, SV.trL, fz, allP, Ob.tr, loadA, cellsA, SV.cells, binA, binI, eqOut, isSl, isPt, natOf, callee, snap, SV.refsL, SV.refs, thaw, fzAll, loA, hiA, elemOf, partsA, buildA, putCells, ↓reduceIte, reduceCtorEq, okCell, Nat.reduceAdd, Nat.reduceEqDiff, Nat.reduceSub, Nat.reduceMul, Nat.reduceLeDiff, Nat.reduceLT, Nat.reduceBEq, PV.scal, PV.scalL, SV.scal, SV.scalL, Ob.scal, PV.isCell, pure', resO]
          exact hN (i + 1, _, _, _, _) _ _ (by simp only; omega) (by simp only; omega) (by rw [hq]) (by rw [hq])
        | true =>
          have hq : lpE m x E (i + 1) = (betT (oneT m x (i + 1)) (lpE m x E i).1, (ofE' m x (i + 1) (lpE m x E i).2).2) := by rw [hst, hv]; rfl
          by_cases hb : (lpE m x E i).1 < 0
          · have hbe : betT (oneT m x (i + 1)) (lpE m x E i).1 = oneT m x (i + 1) := by simp only [betT, if_pos (Or.inl hb)]
            rw [hbe] at hq
            simp only [h1, h1', hw, hs, hmu, e2, hv, hb, h_lof, c_lofK, c_lof, isES_ent, ofES_ent, Int.toNat_natCast, ints_len, isI_ints, ofI_ints, Bool.false_eq_true, ↓SP, SQ, Gam.add, stepM, callC, argC, lendO, nmBy, nmC, likeL, likeB, plainOb, offs, exL, X, F, trP, trO, stepD, stepW, newA, SV.tr, SV.trL, fz, allP, Ob.tr, loadA, cellsA, SV.cells, binA, binI, eqOut, isSl, isPt, natOf, callee, snap, SV.refsL, SV.refs, thaw, fzAll, loA, hiA, elemOf, partsA, buildA, putCells, ↓reduceIte, reduceCtorEq, okCell, Nat.reduceAdd, Nat.reduceEqDiff, Nat.reduceSub, Nat.reduceMul, Nat.reduceLeDiff, Nat.reduceLT, Nat.reduceBEq, PV.scal, PV.scalL, SV.scal, SV.scalL, Ob.scal, PV.isCell, pure', resO]
            exact hN (i + 1, _, _, _, _) _ _ (by simp only; omega) (by simp only; omega) (by rw [hq]) (by rw [hq])
          · by_cases hb2 : oneT m x (i + 1) < (lpE m x E i).1
            · have hbe : betT (oneT m x (i + 1)) (lpE m x E i).1 = oneT m x (i + 1) := by simp only [betT, if_pos (Or.inr hb2)]
              rw [hbe] at hq
              simp only [h1, h1', hw, hs, hmu, e2, hv, hb, hb2, h_lof, c_lofK, c_lof, isES_ent, ofES_ent, Int.toNat_natCast, ints_len, isI_ints, ofI_ints, Bool.false_eq_true, ↓SP, SQ, Gam.add, stepM, callC, argC, lendO, nmBy, nmC, likeL, likeB, plainOb, offs, exL, X, F, trP, trO, stepD, stepW, newA, SV.tr, SV.trL, fz, allP, Ob.tr, loadA, cellsA, SV.cells, binA, binI, eqOut, isSl, isPt, natOf, callee, snap, SV.refsL, SV.refs, thaw, fzAll, loA, hiA, elemOf, partsA, buildA, putCells, ↓reduceIte, reduceCtorEq, okCell, Nat.reduceAdd, Nat.reduceEqDiff, Nat.reduceSub, Nat.reduceMul, Nat.reduceLeDiff, Nat.reduceLT, Nat.reduceBEq, PV.scal, PV.scalL, SV.scal, SV.scalL, Ob.scal, PV.isCell, pure', resO]
              exact hN (i + 1, _, _, _, _) _ _ (by simp only; omega) (by simp only; omega) (by rw [hq]) (by rw [hq])
            · have hbe : betT (oneT m x (i + 1)) (lpE m x E i).1 = (lpE m x E i).1 := by simp only [betT, if_neg (not_or.2 ⟨hb, hb2⟩)]
              rw [hbe] at hq
              simp only [h1, h1', hw, hs, hmu, e2, hv, hb, hb2, h_lof, c_lofK, c_lof, isES_ent, ofES_ent, Int.toNat_natCast, ints_len, isI_ints, ofI_ints, Bool.false_eq_true, ↓SP, SQ, Gam.add, stepM, callC, argC, lendO, nmBy, nmC, likeL, likeB, plainOb, offs, exL, X, F, trP, trO, stepD, stepW, newA, SV.tr, SV.trL, fz, allP, Ob.tr, loadA, cellsA, SV.cells, binA, binI, eqOut, isSl, isPt, natOf, callee, snap, SV.refsL, SV.refs, thaw, fzAll, loA, hiA, elemOf, partsA, buildA, putCells, ↓reduceIte, reduceCtorEq, okCell, Nat.reduceAdd, Nat.reduceEqDiff, Nat.reduceSub, Nat.reduceMul, Nat.reduceLeDiff, Nat.reduceLT, Nat.reduceBEq, PV.scal, PV.scalL, SV.scal, SV.scalL, Ob.scal, PV.isCell, pure', resO]
              exact hN (i + 1, _, _, _, _) _ _ (by simp only; omega) (by simp only; omega) (by rw [hq]) (by rw [hq])
      · have he : i = x.length - 1 := by omega
        have h1 : ¬ ((i + 1 : Nat) : Int) < x.length := by omega
        simp only [h1, ints_len, ↓SP, SQ, Gam.add, stepM, callC, argC, lendO, nmBy, nmC, likeL, likeB, plainOb, offs, exL, X, F, trP, trO, stepD, stepW, newA, SV.tr, SV.trL, fz, allP, Ob.tr, loadA, cellsA, SV.cells, binA, binI, eqOut, isSl, isPt, natOf, callee, snap, SV.refsL, SV.refs, thaw, fzAll, loA, hiA, elemOf, partsA, buildA, putCells, ↓reduceIte, reduceCtorEq, okCell, Nat.reduceAdd, Nat.reduceEqDiff, Nat.reduceSub, Nat.reduceMul, Nat.reduceLeDiff, Nat.reduceLT, Nat.reduceBEq, PV.scal, PV.scalL, SV.scal, SV.scalL, Ob.scal, PV.isCell, pure', resO]
        refine hR _ _ _ (by intro h; cases h) ?_
        subst he
        simp only [hlast.1, h_codeS, c_codeS, hs, keyA, keysOk, mset_entE, isI_ints, ofI_ints, ↓SP, SQ, Gam.add, stepM, callC, argC, lendO, nmBy, nmC, likeL, likeB, plainOb, offs, exL, X, F, trP, trO, stepD, stepW, newA, SV.tr, SV.trL, fz, allP, Ob.tr, loadA, cellsA, SV.cells, binA, binI, eqOut, isSl, isPt, natOf, callee, snap, SV.refsL, SV.refs, thaw, fzAll, loA, hiA, elemOf, partsA, buildA, putCells, ↓reduceIte, reduceCtorEq, okCell, Nat.reduceAdd, Nat.reduceEqDiff, Nat.reduceSub, Nat.reduceMul, Nat.reduceLeDiff, Nat.reduceLT, Nat.reduceBEq, PV.scal, PV.scalL, SV.scal, SV.scalL, Ob.scal, PV.isCell, pure', resO]
        refine finA_gen [] trivial (by simp [retA, rvA, List.mapM_cons, List.mapM_nil, Option.pure_def, Option.bind_eq_bind, Option.bind_some, Option.map_some, mkE_cons, mk_nil, mkO_cons, mkO_nil, loadA, ↓reduceIte, List.take_succ_cons, List.take_zero, List.drop_zero, List.drop_succ_cons, List.length_cons, List.length_nil, Nat.reduceAdd, Nat.reduceEqDiff, Nat.reduceLeDiff, Nat.zero_add, Nat.le_refl, reduceCtorEq, SV.tr, SV.trL, nmF, rn_nil, rn_cons1, rn_cons2, List.map_cons, List.map_nil, List.all_cons, List.all_nil, plainOb, SV.refsL, SV.refs, Ob.refs, X, F, List.range_succ, List.range_zero, List.nil_append, List.cons_append, List.isEmpty_nil, decide_true, Nat.reduceLT, Bool.and_self, Bool.and_true, and_self, and_true, List.getElem?_cons_zero, List.getElem?_cons_succ, List.nodup_cons, List.nodup_nil, List.mem_cons, List.not_mem_nil, not_false_eq_true, or_false, List.append_nil, mkO, setO_mk, List.mem_singleton]; rfl) ?_ ?_ ?_ ?_ ?_ ?_ ?_ <;> simp [retA, rvA, List.mapM_cons, List.mapM_nil, Option.pure_def, Option.bind_eq_bind, Option.bind_some, Option.map_some, mkE_cons, mk_nil, mkO_cons, mkO_nil, loadA, ↓reduceIte, List.take_succ_cons, List.take_zero, List.drop_zero, List.drop_succ_cons, List.length_cons, List.length_nil, Nat.reduceAdd, Nat.reduceEqDiff, Nat.reduceLeDiff, Nat.zero_add, Nat.le_refl, reduceCtorEq, SV.tr, SV.trL, nmF, rn_nil, rn_cons1, rn_cons2, List.map_cons, List.map_nil, List.all_cons, List.all_nil, plainOb, SV.refsL, SV.refs, Ob.refs, X, F, List.range_succ, List.range_zero, List.nil_append, List.cons_append, List.isEmpty_nil, decide_true, Nat.reduceLT, Bool.and_self, Bool.and_true, and_self, and_true, List.getElem?_cons_zero, List.getElem?_cons_succ, List.nodup_cons, List.nodup_nil, List.mem_cons, List.not_mem_nil, not_false_eq_true, or_false, List.append_nil, mkO, setO_mk, List.mem_singleton]
theorem s_lneed {P : Program} (hm : P.follows .mixedOrders = true) {Γ : Gam} (hΓ : GS P Γ) {n f_opened f_codeS f_lof f_less f_bothA f_isEqualS : FuncId} (is : Is P n (a_lneed f_opened f_codeS f_lof)) (is2 : Is P f_lof (a_lof f_less f_bothA f_isEqualS n)) (hne : f_opened ≠ n ∧ f_codeS ≠ n ∧ f_opened ≠ f_lof ∧ f_codeS ≠ f_lof ∧ f_less ≠ n ∧ f_bothA ≠ n ∧ f_isEqualS ≠ n) (h_opened : Γ f_opened = c_l2Open) (h_codeS : Γ f_codeS = c_codeS) (h_less : Γ f_less = c_less) (h_bothA : Γ f_bothA = c_bothA) (h_isEqualS : Γ f_isEqualS = c_isEqualS) : Says P n c_lneed := by
  refine Says.rec hΓ muN fun k hk args ext r ext' fs h hmu => ?_
  obtain ⟨n1, n2, n3, n4, n5, n6, n7⟩ := hne
  have h2 : Says P f_lof (c_lofK k) := lof_walk hm hk is2 (by simp [Gam.addX, n5, h_less]) (by simp [Gam.addX, n6, h_bothA]) (by simp [Gam.addX, n7, h_isEqualS]) (by simp [Gam.addX])
  exact lneed_walk (j := k) hm (hk.addX h2) is (by simp [Gam.addX, n1, n3, h_opened]) (by simp [Gam.addX, n2, n4, h_codeS]) (by simp [Gam.addX]) args ext r ext' fs h (by omega)
theorem s_lof {P : Program} (hm : P.follows .mixedOrders = true) {Γ : Gam} (hΓ : GS P Γ) {n f_less f_bothA f_isEqualS f_lneed : FuncId} (is : Is P n (a_lof f_less f_bothA f_isEqualS f_lneed)) (h_less : Γ f_less = c_less) (h_bothA : Γ f_bothA = c_bothA) (h_isEqualS : Γ f_isEqualS = c_isEqualS) (h_lneed : Γ f_lneed = c_lneed) : Says P n c_lof := by
  intro args ext r ext' fs h
  have hg : GS P (Γ.addX f_lneed (lim muN 100 c_lneed)) := by
    intro f' args ext r ext' fs he
    unfold Gam.addX at he
    split at he
    · rename_i hf
      unfold lim at he
      split at he
      · exact hΓ _ _ _ _ _ _ (by rw [hf, h_lneed]; exact he)
      · cases he
    · exact hΓ _ _ _ _ _ _ he
  by_cases hne : f_less = f_lneed ∨ f_bothA = f_lneed ∨ f_isEqualS = f_lneed
  · exfalso
    have hbad : ∀ {c : Con} {v : List SV}, c v [] ≠ none → c = c_lneed → False := fun h e => by
      rw [e] at h
      simp [c_lneed] at h
    rcases hne with e | e | e
    · rw [e, h_lneed] at h_less
      exact hbad (c := c_less) (v := [.p (.int .i64 1)]) (by simp [c_less, pure']) h_less.symm
    · rw [e, h_lneed] at h_bothA
      exact hbad (c := c_bothA) (v := [.p (.agg [.sl 1 (ints []), .int .i64 0]), .p (.int .i64 0)]) (by simp [c_bothA, pure', ints]; exact ⟨rfl, by decide, fun x h => by cases h⟩) h_bothA.symm
    · rw [e, h_lneed] at h_isEqualS
      exact hbad (c := c_isEqualS) (v := [.p (.agg [.sl 1 (ints [0]), .int .i64 0]), .p (.agg [.sl 1 (ints [0]), .int .i64 0])]) (by simp [c_isEqualS, pure', isI_ints, ofI_ints, isSh, isSt]) h_isEqualS.symm
  · obtain ⟨n5, hne⟩ := not_or.1 hne
    obtain ⟨n6, n7⟩ := not_or.1 hne
    refine lof_walk (j := 100) hm hg is (by simp [Gam.addX, n5, h_less]) (by simp [Gam.addX, n6, h_bothA]) (by simp [Gam.addX, n7, h_isEqualS]) (by simp [Gam.addX]) args ext r ext' fs ?_
    have h' := h
    unfold c_lof at h'
    split at h'
    case h_2 => cases h'
    rename_i x_ m k es
    split at h'
    case isFalse => cases h'
    rename_i hc
    simp only [c_lofK]
    rw [if_pos (by have := (CS.of hc.2.2.1).le; omega)]
    exact h
/-- What becomes of the map while the best comparison is sought. -/
def beE (m : Int) (x : List Int) (E : ES) : Nat → ES
  | 0 => E
  | j + 1 => if vldT m x (j + 1) = true then (needE m x (ofE' m x (j + 1) (beE m x E j)).2).2 else (ofE' m x (j + 1) (beE m x E j)).2
theorem beE_good {m : Int} {x : List Int} {E : ES} (hs : isSh x m = true) (hok : okLM m x.length E) : ∀ j, j < x.length → okLM m x.length (beE m x E j)
  | 0, _ => hok
  | j + 1, h => by
    have ih := beE_good hs hok j (by omega)
    have o := ofE_good hs (k := j + 1) (by omega) h ih
    simp only [beE]
    split
    · exact (needE_good hs o.2).2
    · exact o.2
/-- The comparison that the plan asks. -/
def hitT (m : Int) (x : List Int) (k : Nat) : Bool := vldT m x k && decide (oneT m x k = lnT m x)
def kbT (m : Int) (x : List Int) : Nat := 1 + ((List.range (x.length - 1)).findIdx fun j => hitT m x (j + 1))
theorem kbT_at {m : Int} {x : List Int} {i : Nat} (h : i + 1 < x.length) (hn : ∀ j, j < i → hitT m x (j + 1) = false) (hy : hitT m x (i + 1) = true) : kbT m x = i + 1 := by
  have hi : i < (List.range (x.length - 1)).length := by simp; omega
  have : (List.range (x.length - 1)).findIdx (fun j => hitT m x (j + 1)) = i := by
    refine (List.findIdx_eq hi).2 ⟨by simpa using hy, fun j hj => ?_⟩
    simpa using hn j hj
  simp only [kbT, this]; omega
theorem hit_ex {m : Int} {x : List Int} (hs : isSh x m = true) (ho : ¬ (opens x).length < 2) : ∃ k, k + 1 < x.length ∧ hitT m x (k + 1) = true := by
  obtain ⟨k, h1, h2, hv, he⟩ := (CS.of hs).ex ho
  exact ⟨k - 1, by omega, by rw [show k - 1 + 1 = k by omega]; simp [hitT, hv, he]⟩
theorem kbT_bd {m : Int} {x : List Int} (hs : isSh x m = true) (ho : ¬ (opens x).length < 2) : 1 ≤ kbT m x ∧ kbT m x < x.length ∧ hitT m x (kbT m x) = true := by
  obtain ⟨k, h1, h2⟩ := hit_ex hs ho
  have hlt : (List.range (x.length - 1)).findIdx (fun j => hitT m x (j + 1)) < (List.range (x.length - 1)).length := List.findIdx_lt_length_of_exists ⟨k, List.mem_range.2 (by omega), h2⟩
  have hg := List.findIdx_getElem (w := hlt)
  simp only [List.getElem_range] at hg
  rw [List.length_range] at hlt
  simp only [kbT]
  refine ⟨by omega, by omega, ?_⟩
  rw [Nat.add_comm]; exact hg
open Classical in
noncomputable def c_lbest : Con := fun args ext => match args, ext with
  | [.ag [.mp 1000000], .p (.agg [.sl 1 x_, .int .i64 m])], [.map es] => if isI x_ = true ∧ isES es = true ∧ isSh (ofI x_) m = true ∧ okLM m x_.length (ofES es) ∧ ¬ (opens (ofI x_)).length < 2 then some (.p (.int .i64 (kbT m (ofI x_))), [.map (entE (beE m (ofI x_) (ofES es) (kbT m (ofI x_))))], []) else none
  | _, _ => none
theorem s_lbest {P : Program} (hm : P.follows .mixedOrders = true) {Γ : Gam} (hΓ : GS P Γ) {n : FuncId} {f_lof : FuncId} {f_lneed : FuncId} (is : Is P n (a_lbest f_lof f_lneed)) (h_lof : Γ f_lof = c_lof) (h_lneed : Γ f_lneed = c_lneed)  : Says P n c_lbest := by
  intro args ext r ext' fs h
  unfold c_lbest at h
  split at h
  case h_2 => cases h
  rename_i x_ m es
  split at h
  case isFalse => cases h
  rename_i hc
  obtain ⟨hx_, hes, hs, hok, ho⟩ := hc
  obtain ⟨x, rfl⟩ := isI_out hx_
  have hes2 := isES_out hes
  generalize ofES es = E at hes2 hok h
  subst hes2
  rw [ints_len] at hok
  simp only [ofI_ints, Option.some.injEq, Prod.mk.injEq] at h hs ho
  obtain ⟨rfl, rfl, rfl⟩ := h
  obtain ⟨hl1, hl5, hmm, _⟩ := sh_out hs
  refine is.goX hm hΓ k_lbest (1000000 :: o_lbest) (by simp [a_lbest]) (by simp) ?_
  simp only [a_lbest, List.zipIdx_cons, List.zipIdx_nil, ↓SP, SQ, Gam.add, stepM, callC, argC, lendO, nmBy, nmC, likeL, likeB, plainOb, offs, exL, X, F, trP, trO, stepD, stepW, newA, SV.tr, SV.trL, fz, allP, Ob.tr, loadA, cellsA, SV.cells, binA, binI, eqOut, isSl, isPt, natOf, callee, snap, SV.refsL, SV.refs, thaw, fzAll, loA, hiA, elemOf, partsA, buildA, putCells, ↓reduceIte, reduceCtorEq, okCell, Nat.reduceAdd, Nat.reduceEqDiff, Nat.reduceSub, Nat.reduceMul, Nat.reduceLeDiff, Nat.reduceLT, Nat.reduceBEq, PV.scal, PV.scalL, SV.scal, SV.scalL, Ob.scal, PV.isCell, pure', resO]
  refine loop_at (fun s : Nat × SV × SV × SV × SV => mkEnv [(0, .ag [.mp 1000000]), (1, .p (.agg [.sl 1 (ints x), .int .i64 m])), (2, .bx 2 0), (3, .bx 3 0), (4, si 0), (5, si ((s.1 + 1 : Nat) : Int)), (6, s.2.1), (7, s.2.2.1), (12, s.2.2.2.1), (29, s.2.2.2.2)]) (fun s => mkO [(1000000, some (.map (entE (beE m x E s.1)))), (2, some (.box [.mp 1000000])), (3, some (.box [.p (.sl 1 (ints x)), si m]))]) (fun s => s.1 < x.length ∧ ∀ j, j < s.1 → hitT m x (j + 1) = false) (fun s => x.length - s.1) (0, .junk, .junk, .junk, .junk) (by simp; omega) rfl rfl ?_
  rintro ⟨i, c1, c2, c3, c4⟩ ⟨hi, hno⟩ R hR hN
  simp only at hi hno
  have h : i + 1 < x.length := by
    obtain ⟨k, h1, h2⟩ := hit_ex hs ho
    rcases Nat.lt_or_ge (i + 1) x.length with g | g
    · exact g
    · have := hno k (by omega); rw [h2] at this; cases this
  have h1 : ((i + 1 : Nat) : Int) < x.length := by omega
  have h1' : (1 : Int) ≤ ((i + 1 : Nat) : Int) := by omega
  have hw := wrap_one (i := i + 1) (by omega)
  have e2 := beE_good hs hok i hi
  have o := ofE_good hs (k := i + 1) (by omega) h e2
  cases hv : vldT m x (i + 1) with
  | false =>
    have hh : hitT m x (i + 1) = false := by simp [hitT, hv]
    have hq : beE m x E (i + 1) = (ofE' m x (i + 1) (beE m x E i)).2 := by simp [beE, hv]
    simp only [h1, h1', hw, hs, e2, hv, h_lof, c_lof, isES_ent, ofES_ent, Int.toNat_natCast, ints_len, isI_ints, ofI_ints, Bool.false_eq_true, ↓SP, SQ, Gam.add, stepM, callC, argC, lendO, nmBy, nmC, likeL, likeB, plainOb, offs, exL, X, F, trP, trO, stepD, stepW, newA, SV.tr, SV.trL, fz, allP, Ob.tr, loadA, cellsA, SV.cells, binA, binI, eqOut, isSl, isPt, natOf, callee, snap, SV.refsL, SV.refs, thaw, fzAll, loA, hiA, elemOf, partsA, buildA, putCells, ↓reduceIte, reduceCtorEq, okCell, Nat.reduceAdd, Nat.reduceEqDiff, Nat.reduceSub, Nat.reduceMul, Nat.reduceLeDiff, Nat.reduceLT, Nat.reduceBEq, PV.scal, PV.scalL, SV.scal, SV.scalL, Ob.scal, PV.isCell, pure', resO]
    exact hN (i + 1, _, _, _, _) _ _ (by simp only; refine ⟨h, fun j hj => ?_⟩; by_cases hji : j = i; { subst hji; exact hh }; exact hno j (by omega)) (by simp only; omega) rfl (by rw [hq])
  | true =>
    have hq : beE m x E (i + 1) = (needE m x (ofE' m x (i + 1) (beE m x E i)).2).2 := by simp [beE, hv]
    have hne := needE_good hs o.2
    by_cases hb : oneT m x (i + 1) = lnT m x
    · have hh : hitT m x (i + 1) = true := by simp [hitT, hv, hb]
      have hkb := kbT_at h hno hh
      have hbt : (oneT m x (i + 1) == lnT m x) = true := by rw [hb]; exact beq_self_eq_true _
      have o2 := o.2
      simp only [h1, h1', hw, hs, e2, o2, hv, hbt, h_lof, c_lof, h_lneed, c_lneed, isES_ent, ofES_ent, Int.toNat_natCast, ints_len, isI_ints, ofI_ints, Bool.false_eq_true, ↓SP, SQ, Gam.add, stepM, callC, argC, lendO, nmBy, nmC, likeL, likeB, plainOb, offs, exL, X, F, trP, trO, stepD, stepW, newA, SV.tr, SV.trL, fz, allP, Ob.tr, loadA, cellsA, SV.cells, binA, binI, eqOut, isSl, isPt, natOf, callee, snap, SV.refsL, SV.refs, thaw, fzAll, loA, hiA, elemOf, partsA, buildA, putCells, ↓reduceIte, reduceCtorEq, okCell, Nat.reduceAdd, Nat.reduceEqDiff, Nat.reduceSub, Nat.reduceMul, Nat.reduceLeDiff, Nat.reduceLT, Nat.reduceBEq, PV.scal, PV.scalL, SV.scal, SV.scalL, Ob.scal, PV.isCell, pure', resO]
      refine hR _ _ _ (by intro h; cases h) ?_
      rw [hkb, hq]
      refine finA_gen [] trivial (by simp [retA, rvA, List.mapM_cons, List.mapM_nil, Option.pure_def, Option.bind_eq_bind, Option.bind_some, Option.map_some, mkE_cons, mk_nil, mkO_cons, mkO_nil, loadA, ↓reduceIte, List.take_succ_cons, List.take_zero, List.drop_zero, List.drop_succ_cons, List.length_cons, List.length_nil, Nat.reduceAdd, Nat.reduceEqDiff, Nat.reduceLeDiff, Nat.zero_add, Nat.le_refl, reduceCtorEq, SV.tr, SV.trL, nmF, rn_nil, rn_cons1, rn_cons2, List.map_cons, List.map_nil, List.all_cons, List.all_nil, plainOb, SV.refsL, SV.refs, Ob.refs, X, F, List.range_succ, List.range_zero, List.nil_append, List.cons_append, List.isEmpty_nil, decide_true, Nat.reduceLT, Bool.and_self, Bool.and_true, and_self, and_true, List.getElem?_cons_zero, List.getElem?_cons_succ, List.nodup_cons, List.nodup_nil, List.mem_cons, List.not_mem_nil, not_false_eq_true, or_false, List.append_nil, mkO, setO_mk, List.mem_singleton]; rfl) ?_ ?_ ?_ ?_ ?_ ?_ ?_ <;> simp [retA, rvA, List.mapM_cons, List.mapM_nil, Option.pure_def, Option.bind_eq_bind, Option.bind_some, Option.map_some, mkE_cons, mk_nil, mkO_cons, mkO_nil, loadA, ↓reduceIte, List.take_succ_cons, List.take_zero, List.drop_zero, List.drop_succ_cons, List.length_cons, List.length_nil, Nat.reduceAdd, Nat.reduceEqDiff, Nat.reduceLeDiff, Nat.zero_add, Nat.le_refl, reduceCtorEq, SV.tr, SV.trL, nmF, rn_nil, rn_cons1, rn_cons2, List.map_cons, List.map_nil, List.all_cons, List.all_nil, plainOb, SV.refsL, SV.refs, Ob.refs, X, F, List.range_succ, List.range_zero, List.nil_append, List.cons_append, List.isEmpty_nil, decide_true, Nat.reduceLT, Bool.and_self, Bool.and_true, and_self, and_true, List.getElem?_cons_zero, List.getElem?_cons_succ, List.nodup_cons, List.nodup_nil, List.mem_cons, List.not_mem_nil, not_false_eq_true, or_false, List.append_nil, mkO, setO_mk, List.mem_singleton]
    · have hh : hitT m x (i + 1) = false := by simp [hitT, hv, hb]
      have hbt : (oneT m x (i + 1) == lnT m x) = false := beq_eq_false_iff_ne.2 hb
      have o2 := o.2
      simp only [h1, h1', hw, hs, e2, o2, hv, hbt, h_lof, c_lof, h_lneed, c_lneed, isES_ent, ofES_ent, Int.toNat_natCast, ints_len, isI_ints, ofI_ints, Bool.false_eq_true, ↓SP, SQ, Gam.add, stepM, callC, argC, lendO, nmBy, nmC, likeL, likeB, plainOb, offs, exL, X, F, trP, trO, stepD, stepW, newA, SV.tr, SV.trL, fz, allP, Ob.tr, loadA, cellsA, SV.cells, binA, binI, eqOut, isSl, isPt, natOf, callee, snap, SV.refsL, SV.refs, thaw, fzAll, loA, hiA, elemOf, partsA, buildA, putCells, ↓reduceIte, reduceCtorEq, okCell, Nat.reduceAdd, Nat.reduceEqDiff, Nat.reduceSub, Nat.reduceMul, Nat.reduceLeDiff, Nat.reduceLT, Nat.reduceBEq, PV.scal, PV.scalL, SV.scal, SV.scalL, Ob.scal, PV.isCell, pure', resO]
      exact hN (i + 1, _, _, _, _) _ _ (by simp only; refine ⟨h, fun j hj => ?_⟩; by_cases hji : j = i; { subst hji; exact hh }; exact hno j (by omega)) (by simp only; omega) rfl (by rw [hq])
theorem tbl_all : ([0, 1].all fun m : Nat => [1, 2, 3, 4, 5].all fun n => decide (tblL m n = (List.range ((m + 2) ^ n)).map fun key => lnT m (dgB (m + 2) n key))) = true := by decide +kernel
theorem tbl_rng {m : Int} {n : Nat} (hm : m = 0 ∨ m = 1) (h1 : 1 ≤ n) (h5 : n ≤ 5) : tblL m n = (List.range ((m + 2).toNat ^ n)).map fun key => lnT m (dgB (m + 2).toNat n key) := by
  have hn : n ∈ [1, 2, 3, 4, 5] := by simp; omega
  rcases hm with rfl | rfl
  · have := List.all_eq_true.1 (List.all_eq_true.1 tbl_all 0 (by simp)) n hn
    exact of_decide_eq_true this
  · have := List.all_eq_true.1 (List.all_eq_true.1 tbl_all 1 (by simp)) n hn
    exact of_decide_eq_true this
theorem tbl_len {m : Int} {n : Nat} (hm : m = 0 ∨ m = 1) (h1 : 1 ≤ n) (h5 : n ≤ 5) : (tblL m n).length = (m + 2).toNat ^ n := by rw [tbl_rng hm h1 h5]; simp
theorem tbl_at {m : Int} {x : List Int} (h : isSh x m = true) : 0 ≤ kyL (m + 2) x ∧ (kyL (m + 2) x).toNat < (tblL m x.length).length ∧ (ints (tblL m x.length))[(kyL (m + 2) x).toNat]? = some (.int .i64 (lnT m x)) := by
  obtain ⟨h1, h5, hm, _⟩ := sh_out h
  have hb := kyL_bd (b := (m + 2).toNat) (by omega) (sh_in h).1
  have e : ((m + 2).toNat : Int) = m + 2 := by omega
  rw [e] at hb
  have hl := tbl_len hm h1 h5
  have hlt : (kyL (m + 2) x).toNat < (tblL m x.length).length := by rw [hl]; omega
  exact ⟨hb.1, hlt, by rw [ints_get hlt]; rfl⟩
def a_l6NeedOf (f_l6After : FuncId) (f_eqIntS : FuncId) (f_l6Key : FuncId) (f_l1Most : FuncId) : AFn := ⟨3, 
  .seq (.reg [⟨some 3, none, .w (.box 2 (.t 0))⟩,
    ⟨some 6, none, .d (.mv (.c (.int .i64 0)))⟩])
  (.seq (.dreg [7, 8] [([7, 8], ⟨some 9, none, .d (.load true 2 (.t 3))⟩),
    ([7, 8], ⟨some 10, none, .d (.mv (.t 1))⟩),
    ([7, 8], ⟨some 11, none, .d (.call (.f f_l6After) [(.t 9), (.t 10), (.c (.bool true))])⟩),
    ([7, 8], ⟨some 12, none, .d (.load true 2 (.t 3))⟩),
    ([7, 8], ⟨some 13, none, .d (.mv (.t 1))⟩),
    ([7, 8], ⟨some 14, none, .d (.call (.f f_l6After) [(.t 12), (.t 13), (.c (.bool false))])⟩),
    ([8], ⟨some 7, none, .w (.alloc [.nilsl, .int .i64 0])⟩),
    ([7], ⟨some 8, none, .w (.alloc [.nilsl, .int .i64 0])⟩)] [⟨none, none, .w (.store 2 (.t 7) (.t 11))⟩,
    ⟨none, none, .w (.store 2 (.t 8) (.t 14))⟩])
  (.seq (.seq (.reg [⟨some 15, none, .d (.fa 0 (.t 7))⟩,
    ⟨some 16, none, .d (.load false 1 (.t 15))⟩,
    ⟨some 17, none, .d (.fa 0 (.t 3))⟩,
    ⟨some 18, none, .d (.load false 1 (.t 17))⟩,
    ⟨some 19, none, .d (.call (.f f_eqIntS) [(.t 16), (.t 18)])⟩,
    ⟨some 20, none, .d (.mv (.t 19))⟩,
    ⟨some 21, some (20, false), .d (.fa 0 (.t 8))⟩,
    ⟨some 22, some (20, false), .d (.load false 1 (.t 21))⟩,
    ⟨some 23, some (20, false), .d (.fa 0 (.t 3))⟩,
    ⟨some 24, some (20, false), .d (.load false 1 (.t 23))⟩,
    ⟨some 25, some (20, false), .d (.call (.f f_eqIntS) [(.t 22), (.t 24)])⟩,
    ⟨some 26, none, .d (.pick (.t 20) (.c (.bool true)) (.t 25))⟩])
  (.cond (.t 26) (.seq (.reg [⟨some 6, none, .d (.mv (.c (.int .i64 (-1))))⟩])
   (.ret)) (.skip)))
  (.seq (.dreg [] [([], ⟨some 27, none, .d (.mv (.t 2))⟩),
    ([], ⟨some 28, none, .d (.load true 2 (.t 7))⟩),
    ([], ⟨some 29, none, .d (.call (.f f_l6Key) [(.t 28)])⟩),
    ([], ⟨some 30, none, .d (.ia 1 (.t 27) (.t 29))⟩),
    ([], ⟨some 31, none, .d (.load false 1 (.t 30))⟩),
    ([], ⟨some 32, none, .d (.mv (.t 2))⟩),
    ([], ⟨some 33, none, .d (.load true 2 (.t 8))⟩),
    ([], ⟨some 34, none, .d (.call (.f f_l6Key) [(.t 33)])⟩),
    ([], ⟨some 35, none, .d (.ia 1 (.t 32) (.t 34))⟩),
    ([], ⟨some 36, none, .d (.load false 1 (.t 35))⟩)] [⟨some 37, none, .d (.call (.f f_l1Most) [(.t 31), (.t 36)])⟩,
    ⟨some 38, none, .d (.bin .arith .add (.c (.int .i64 1)) (.t 37))⟩,
    ⟨some 6, none, .d (.mv (.t 38))⟩])
  (.ret)))), [.tmp 6]⟩
def n_l6NeedOf : Nat → Option Ann := fun _ => none
abbrev k_l6NeedOf : List Nat := [0, 1, 2, 3, 6, 7, 8, 26]
abbrev o_l6NeedOf : List Nat := [3, 7, 8]
def c_l6NeedOf : Con := pure' fun
  | [.p (.agg [.sl 1 x_, .int .i64 m]), .p (.int .i64 k), .p (.sl 1 l_)] => if isI x_ = true ∧ isI l_ = true ∧ (isSh (ofI x_) m = true ∧ (ofI l_) = tblL m (ofI x_).length ∧ 1 ≤ k ∧ k < (ofI x_).length) then some (.p (.int .i64 (if vldT m (ofI x_) k.toNat = true then oneT m (ofI x_) k.toNat else -1)), []) else none
  | _ => none
theorem s_l6NeedOf {P : Program} (hm : P.follows .mixedOrders = true) {Γ : Gam} (hΓ : GS P Γ) {n : FuncId} {f_l6After : FuncId} {f_eqIntS : FuncId} {f_l6Key : FuncId} {f_l1Most : FuncId} (is : Is P n (a_l6NeedOf f_l6After f_eqIntS f_l6Key f_l1Most)) (h_l6After : Γ f_l6After = c_l6After) (h_eqIntS : Γ f_eqIntS = c_eqIntS) (h_l6Key : Γ f_l6Key = c_l6Key) (h_l1Most : Γ f_l1Most = c_l1Most)  : Says P n c_l6NeedOf := by
  refine Says.pure fun args r fs h => ?_
  split at h
  case h_2 => cases h
  rename_i x_ m k l_
  split at h
  case isFalse => cases h
  rename_i hc
  obtain ⟨hx_, hc⟩ := hc
  obtain ⟨x, rfl⟩ := isI_out hx_
  obtain ⟨hl_, hc⟩ := hc
  obtain ⟨l, rfl⟩ := isI_out hl_
  simp only [ofI_ints, ofBo_bools, ofAs_asks, Option.some.injEq, Prod.mk.injEq] at h hc
  obtain ⟨rfl, rfl⟩ := h
  obtain ⟨hs, rfl, hk1, hk2⟩ := hc
  obtain ⟨k, rfl⟩ : ∃ q : Nat, k = q := ⟨k.toNat, by omega⟩
  simp only [Int.toNat_natCast]
  have g1 : 1 ≤ k := by omega
  have g2 : k < x.length := by omega
  obtain ⟨hl1, hl5, hmm, _⟩ := sh_out hs
  have C := CS.of hs
  have h05 : (0 : Int) ≤ (k : Int) ∧ (k : Int) ≤ 5 := by omega
  have hlen := sh_len hs
  have hs0 := C.sh k g1 g2 false
  have hs1 := C.sh k g1 g2 true
  have hla0 := sh_len hs0
  have hla1 := sh_len hs1
  rw [aftL_len] at hla0 hla1
  obtain ⟨p0, _, p2⟩ := tbl_at hs0
  obtain ⟨q0, _, q2⟩ := tbl_at hs1
  rw [aftL_len] at p2 q2
  have hd0 : (kyL (m + 2) (aftL m k false x)).toNat < (tblL m x.length).length := by have := (tbl_at hs0).2.1; rwa [aftL_len] at this
  have hd1 : (kyL (m + 2) (aftL m k true x)).toNat < (tblL m x.length).length := by have := (tbl_at hs1).2.1; rwa [aftL_len] at this
  have hmx : (if lnT m (aftL m k true x) > lnT m (aftL m k false x) then lnT m (aftL m k true x) else lnT m (aftL m k false x)) = mxT (lnT m (aftL m k false x)) (lnT m (aftL m k true x)) := by rw [mxT_comm]; rfl
  have hwr : IntKind.i64.wrap (1 + mxT (lnT m (aftL m k false x)) (lnT m (aftL m k true x))) = oneT m x k := by
    have := oneT_bd hs g1 g2
    rw [show 1 + mxT (lnT m (aftL m k false x)) (lnT m (aftL m k true x)) = oneT m x k from rfl]
    exact wrap64 (by omega) (by omega)
  by_cases e1 : aftL m k true x = x
  · have hv : vldT m x k = false := by simp [vldT, e1]
    have hd := dec_t e1
    refine is.go hm hΓ k_l6NeedOf o_l6NeedOf (by simp [a_l6NeedOf]) ?_
    simp only [a_l6NeedOf, h_l6After, c_l6After, h_eqIntS, c_eqIntS, h_l6Key, c_l6Key, h_l1Most, c_l1Most, h05, hs, hlen, hla0, hla1, aftL_len, hd, slI_sl, Int.toNat_natCast, isI_ints, ofI_ints, ints_len, List.zipIdx_cons, List.zipIdx_nil, ↓SP, SQ, Gam.add, stepM, callC, argC, lendO, nmBy, nmC, likeL, likeB, plainOb, offs, exL, X, F, trP, trO, stepD, stepW, newA, SV.tr, SV.trL, fz, allP, Ob.tr, loadA, cellsA, SV.cells, binA, binI, eqOut, isSl, isPt, natOf, callee, snap, SV.refsL, SV.refs, thaw, fzAll, loA, hiA, elemOf, partsA, buildA, putCells, ↓reduceIte, reduceCtorEq, okCell, Nat.reduceAdd, Nat.reduceEqDiff, Nat.reduceSub, Nat.reduceMul, Nat.reduceLeDiff, Nat.reduceLT, Nat.reduceBEq, PV.scal, PV.scalL, SV.scal, SV.scalL, Ob.scal, PV.isCell, pure', resO]
    exact finA_val (by simp [hv, retA, rvA, List.mapM_cons, List.mapM_nil, Option.pure_def, Option.bind_eq_bind, Option.bind_some, Option.map_some, mkE_cons, mk_nil, mkO_cons, mkO_nil, loadA, ↓reduceIte, List.take_succ_cons, List.take_zero, List.drop_zero, List.drop_succ_cons, List.length_cons, List.length_nil, Nat.reduceAdd, Nat.reduceEqDiff, Nat.reduceLeDiff, Nat.zero_add, Nat.le_refl, reduceCtorEq, SV.tr, SV.trL, nmF, rn_nil, rn_cons1, rn_cons2, List.map_cons, List.map_nil, List.all_cons, List.all_nil, plainOb, SV.refsL, SV.refs, Ob.refs, X, F, List.range_succ, List.range_zero, List.nil_append, List.cons_append, List.isEmpty_nil, decide_true, Nat.reduceLT, Bool.and_self, Bool.and_true, and_self, and_true, List.getElem?_cons_zero, List.getElem?_cons_succ, List.nodup_cons, List.nodup_nil, List.mem_cons, List.not_mem_nil, not_false_eq_true, or_false, List.append_nil, mkO, setO_mk, List.mem_singleton]) (by simp [SV.tr, SV.trL])
  · have hd := dec_f e1
    by_cases e2 : aftL m k false x = x
    · have hv : vldT m x k = false := by simp [vldT, e2]
      have hd2 := dec_t e2
      refine is.go hm hΓ k_l6NeedOf o_l6NeedOf (by simp [a_l6NeedOf]) ?_
      simp only [a_l6NeedOf, h_l6After, c_l6After, h_eqIntS, c_eqIntS, h_l6Key, c_l6Key, h_l1Most, c_l1Most, h05, hs, hlen, hla0, hla1, aftL_len, hd, hd2, slI_sl, Int.toNat_natCast, isI_ints, ofI_ints, ints_len, List.zipIdx_cons, List.zipIdx_nil, ↓SP, SQ, Gam.add, stepM, callC, argC, lendO, nmBy, nmC, likeL, likeB, plainOb, offs, exL, X, F, trP, trO, stepD, stepW, newA, SV.tr, SV.trL, fz, allP, Ob.tr, loadA, cellsA, SV.cells, binA, binI, eqOut, isSl, isPt, natOf, callee, snap, SV.refsL, SV.refs, thaw, fzAll, loA, hiA, elemOf, partsA, buildA, putCells, ↓reduceIte, reduceCtorEq, okCell, Nat.reduceAdd, Nat.reduceEqDiff, Nat.reduceSub, Nat.reduceMul, Nat.reduceLeDiff, Nat.reduceLT, Nat.reduceBEq, PV.scal, PV.scalL, SV.scal, SV.scalL, Ob.scal, PV.isCell, pure', resO]
      exact finA_val (by simp [hv, retA, rvA, List.mapM_cons, List.mapM_nil, Option.pure_def, Option.bind_eq_bind, Option.bind_some, Option.map_some, mkE_cons, mk_nil, mkO_cons, mkO_nil, loadA, ↓reduceIte, List.take_succ_cons, List.take_zero, List.drop_zero, List.drop_succ_cons, List.length_cons, List.length_nil, Nat.reduceAdd, Nat.reduceEqDiff, Nat.reduceLeDiff, Nat.zero_add, Nat.le_refl, reduceCtorEq, SV.tr, SV.trL, nmF, rn_nil, rn_cons1, rn_cons2, List.map_cons, List.map_nil, List.all_cons, List.all_nil, plainOb, SV.refsL, SV.refs, Ob.refs, X, F, List.range_succ, List.range_zero, List.nil_append, List.cons_append, List.isEmpty_nil, decide_true, Nat.reduceLT, Bool.and_self, Bool.and_true, and_self, and_true, List.getElem?_cons_zero, List.getElem?_cons_succ, List.nodup_cons, List.nodup_nil, List.mem_cons, List.not_mem_nil, not_false_eq_true, or_false, List.append_nil, mkO, setO_mk, List.mem_singleton]) (by simp [SV.tr, SV.trL])
    · have hv : vldT m x k = true := by simp [vldT, e1, e2]
      have hd2 := dec_f e2
      refine is.go hm hΓ k_l6NeedOf o_l6NeedOf (by simp [a_l6NeedOf]) ?_
      simp only [a_l6NeedOf, h_l6After, c_l6After, h_eqIntS, c_eqIntS, h_l6Key, c_l6Key, h_l1Most, c_l1Most, h05, hs, hs0, hs1, hlen, hla0, hla1, aftL_len, hd, hd2, p0, p2, q0, q2, hd0, hd1, hmx, hwr, slI_sl, Int.toNat_natCast, isI_ints, ofI_ints, ints_len, List.zipIdx_cons, List.zipIdx_nil, ↓SP, SQ, Gam.add, stepM, callC, argC, lendO, nmBy, nmC, likeL, likeB, plainOb, offs, exL, X, F, trP, trO, stepD, stepW, newA, SV.tr, SV.trL, fz, allP, Ob.tr, loadA, cellsA, SV.cells, binA, binI, eqOut, isSl, isPt, natOf, callee, snap, SV.refsL, SV.refs, thaw, fzAll, loA, hiA, elemOf, partsA, buildA, putCells, ↓reduceIte, reduceCtorEq, okCell, Nat.reduceAdd, Nat.reduceEqDiff, Nat.reduceSub, Nat.reduceMul, Nat.reduceLeDiff, Nat.reduceLT, Nat.reduceBEq, PV.scal, PV.scalL, SV.scal, SV.scalL, Ob.scal, PV.isCell, pure', resO]
      exact finA_val (by simp [hv, retA, rvA, List.mapM_cons, List.mapM_nil, Option.pure_def, Option.bind_eq_bind, Option.bind_some, Option.map_some, mkE_cons, mk_nil, mkO_cons, mkO_nil, loadA, ↓reduceIte, List.take_succ_cons, List.take_zero, List.drop_zero, List.drop_succ_cons, List.length_cons, List.length_nil, Nat.reduceAdd, Nat.reduceEqDiff, Nat.reduceLeDiff, Nat.zero_add, Nat.le_refl, reduceCtorEq, SV.tr, SV.trL, nmF, rn_nil, rn_cons1, rn_cons2, List.map_cons, List.map_nil, List.all_cons, List.all_nil, plainOb, SV.refsL, SV.refs, Ob.refs, X, F, List.range_succ, List.range_zero, List.nil_append, List.cons_append, List.isEmpty_nil, decide_true, Nat.reduceLT, Bool.and_self, Bool.and_true, and_self, and_true, List.getElem?_cons_zero, List.getElem?_cons_succ, List.nodup_cons, List.nodup_nil, List.mem_cons, List.not_mem_nil, not_false_eq_true, or_false, List.append_nil, mkO, setO_mk, List.mem_singleton]) (by simp [SV.tr, SV.trL])
def a_l6Best (f_l6NeedOf : FuncId) (f_l6Key : FuncId) : AFn := ⟨2, 
  .seq (.reg [⟨some 2, none, .w (.box 2 (.t 0))⟩,
    ⟨some 4, none, .d (.mv (.c (.int .i64 0)))⟩])
  (.seq (.reg [⟨some 5, none, .d (.mv (.c (.int .i64 1)))⟩])
  (.seq (.block 0 (.loop (.seq (.seq (.dreg [] [([], ⟨some 6, none, .d (.load true 2 (.t 2))⟩),
      ([], ⟨some 7, none, .d (.mv (.t 5))⟩),
      ([], ⟨some 8, none, .d (.mv (.t 1))⟩),
      ([], ⟨some 9, none, .d (.call (.f f_l6NeedOf) [(.t 6), (.t 7), (.t 8)])⟩),
      ([], ⟨some 10, none, .d (.mv (.t 1))⟩),
      ([], ⟨some 11, none, .d (.load true 2 (.t 2))⟩),
      ([], ⟨some 12, none, .d (.call (.f f_l6Key) [(.t 11)])⟩)] [⟨some 13, none, .d (.ia 1 (.t 10) (.t 12))⟩,
      ⟨some 14, none, .d (.load false 1 (.t 13))⟩,
      ⟨some 15, none, .d (.bin .arith .neq (.t 9) (.t 14))⟩])
    (.cond (.t 15) (.skip) (.exit 0)))
    (.block 1 (.reg [⟨some 16, none, .d (.mv (.t 5))⟩,
       ⟨some 17, none, .d (.bin .arith .add (.t 16) (.c (.int .i64 1)))⟩,
       ⟨some 5, none, .d (.mv (.t 17))⟩])))))
  (.seq (.reg [⟨some 18, none, .d (.mv (.t 5))⟩,
    ⟨some 4, none, .d (.mv (.t 18))⟩])
  (.ret)))), [.tmp 4]⟩
def n_l6Best : Nat → Option Ann := fun _ => none
abbrev k_l6Best : List Nat := [0, 1, 2, 4, 5, 15]
abbrev o_l6Best : List Nat := [2]
def c_l6Best : Con := pure' fun
  | [.p (.agg [.sl 1 x_, .int .i64 m]), .p (.sl 1 l_)] => if isI x_ = true ∧ isI l_ = true ∧ (isSh (ofI x_) m = true ∧ (ofI l_) = tblL m (ofI x_).length ∧ ¬ (opens (ofI x_)).length < 2) then some (.p (.int .i64 (kbT m (ofI x_))), []) else none
  | _ => none
theorem s_l6Best {P : Program} (hm : P.follows .mixedOrders = true) {Γ : Gam} (hΓ : GS P Γ) {n : FuncId} {f_l6NeedOf : FuncId} {f_l6Key : FuncId} (is : Is P n (a_l6Best f_l6NeedOf f_l6Key)) (h_l6NeedOf : Γ f_l6NeedOf = c_l6NeedOf) (h_l6Key : Γ f_l6Key = c_l6Key)  : Says P n c_l6Best := by
  refine Says.pure fun args r fs h => ?_
  split at h
  case h_2 => cases h
  rename_i x_ m l_
  split at h
  case isFalse => cases h
  rename_i hc
  obtain ⟨hx_, hc⟩ := hc
  obtain ⟨x, rfl⟩ := isI_out hx_
  obtain ⟨hl_, hc⟩ := hc
  obtain ⟨l, rfl⟩ := isI_out hl_
  simp only [ofI_ints, ofBo_bools, ofAs_asks, Option.some.injEq, Prod.mk.injEq] at h hc
  obtain ⟨rfl, rfl⟩ := h
  obtain ⟨hs, rfl, ho⟩ := hc
  obtain ⟨hl1, hl5, hmm, _⟩ := sh_out hs
  obtain ⟨p0, p1, p2⟩ := tbl_at hs
  have C := CS.of hs
  have hpos := C.pos ho
  refine is.go hm hΓ k_l6Best o_l6Best (by simp [a_l6Best]) ?_
  simp only [a_l6Best, h_l6NeedOf, c_l6NeedOf, h_l6Key, c_l6Key, List.zipIdx_cons, List.zipIdx_nil, ↓SP, SQ, Gam.add, stepM, callC, argC, lendO, nmBy, nmC, likeL, likeB, plainOb, offs, exL, X, F, trP, trO, stepD, stepW, newA, SV.tr, SV.trL, fz, allP, Ob.tr, loadA, cellsA, SV.cells, binA, binI, eqOut, isSl, isPt, natOf, callee, snap, SV.refsL, SV.refs, thaw, fzAll, loA, hiA, elemOf, partsA, buildA, putCells, ↓reduceIte, reduceCtorEq, okCell, Nat.reduceAdd, Nat.reduceEqDiff, Nat.reduceSub, Nat.reduceMul, Nat.reduceLeDiff, Nat.reduceLT, Nat.reduceBEq, PV.scal, PV.scalL, SV.scal, SV.scalL, Ob.scal, PV.isCell, pure', resO]
  refine loop_at (fun s : Nat × SV => mkEnv [(0, .p (.agg [.sl 1 (ints x), .int .i64 m])), (1, .p (.sl 1 (ints (tblL m x.length)))), (2, .bx 2 0), (4, si 0), (5, si ((s.1 + 1 : Nat) : Int)), (15, s.2)]) (fun _ => mkO [(2, some (.box [.p (.sl 1 (ints x)), si m]))]) (fun s => s.1 < x.length ∧ ∀ j, j < s.1 → hitT m x (j + 1) = false) (fun s => x.length - s.1) (0, .junk) (by simp; omega) rfl rfl ?_
  rintro ⟨i, c1⟩ ⟨hi, hno⟩ R hR hN
  simp only at hi hno
  have h : i + 1 < x.length := by
    obtain ⟨k, h1, h2⟩ := hit_ex hs ho
    rcases Nat.lt_or_ge (i + 1) x.length with g | g
    · exact g
    · have := hno k (by omega); rw [h2] at this; cases this
  have h1 : ((i + 1 : Nat) : Int) < x.length := by omega
  have h1' : (1 : Int) ≤ ((i + 1 : Nat) : Int) := by omega
  have hw := wrap_one (i := i + 1) (by omega)
  cases hh : hitT m x (i + 1) with
  | false =>
    have hbt : ((if vldT m x (i + 1) = true then oneT m x (i + 1) else -1) != lnT m x) = true := by
      have hne : (if vldT m x (i + 1) = true then oneT m x (i + 1) else -1) ≠ lnT m x := by
        simp only [hitT, Bool.and_eq_false_iff, decide_eq_false_iff_not] at hh
        split
        · rename_i hv
          rcases hh with g | g
          · rw [hv] at g; cases g
          · exact g
        · omega
      simpa using hne
    simp only [h1, h1', hw, hs, p0, p1, p2, hbt, h_l6NeedOf, c_l6NeedOf, h_l6Key, c_l6Key, Int.toNat_natCast, ints_len, isI_ints, ofI_ints, ↓SP, SQ, Gam.add, stepM, callC, argC, lendO, nmBy, nmC, likeL, likeB, plainOb, offs, exL, X, F, trP, trO, stepD, stepW, newA, SV.tr, SV.trL, fz, allP, Ob.tr, loadA, cellsA, SV.cells, binA, binI, eqOut, isSl, isPt, natOf, callee, snap, SV.refsL, SV.refs, thaw, fzAll, loA, hiA, elemOf, partsA, buildA, putCells, ↓reduceIte, reduceCtorEq, okCell, Nat.reduceAdd, Nat.reduceEqDiff, Nat.reduceSub, Nat.reduceMul, Nat.reduceLeDiff, Nat.reduceLT, Nat.reduceBEq, PV.scal, PV.scalL, SV.scal, SV.scalL, Ob.scal, PV.isCell, pure', resO]
    exact hN (i + 1, _) _ _ (by simp only; refine ⟨h, fun j hj => ?_⟩; by_cases hji : j = i; { subst hji; exact hh }; exact hno j (by omega)) (by simp only; omega) rfl rfl
  | true =>
    have hkb := kbT_at h hno hh
    have hbt : ((if vldT m x (i + 1) = true then oneT m x (i + 1) else -1) != lnT m x) = false := by
      simp only [hitT, Bool.and_eq_true, decide_eq_true_eq] at hh
      rw [if_pos hh.1, hh.2]; simp
    simp only [h1, h1', hw, hs, p0, p1, p2, hbt, h_l6NeedOf, c_l6NeedOf, h_l6Key, c_l6Key, Int.toNat_natCast, ints_len, isI_ints, ofI_ints, ↓SP, SQ, Gam.add, stepM, callC, argC, lendO, nmBy, nmC, likeL, likeB, plainOb, offs, exL, X, F, trP, trO, stepD, stepW, newA, SV.tr, SV.trL, fz, allP, Ob.tr, loadA, cellsA, SV.cells, binA, binI, eqOut, isSl, isPt, natOf, callee, snap, SV.refsL, SV.refs, thaw, fzAll, loA, hiA, elemOf, partsA, buildA, putCells, ↓reduceIte, reduceCtorEq, okCell, Nat.reduceAdd, Nat.reduceEqDiff, Nat.reduceSub, Nat.reduceMul, Nat.reduceLeDiff, Nat.reduceLT, Nat.reduceBEq, PV.scal, PV.scalL, SV.scal, SV.scalL, Ob.scal, PV.isCell, pure', resO]
    refine hR _ _ _ (by intro h; cases h) ?_
    simp only [↓SP, SQ, Gam.add, stepM, callC, argC, lendO, nmBy, nmC, likeL, likeB, plainOb, offs, exL, X, F, trP, trO, stepD, stepW, newA, SV.tr, SV.trL, fz, allP, Ob.tr, loadA, cellsA, SV.cells, binA, binI, eqOut, isSl, isPt, natOf, callee, snap, SV.refsL, SV.refs, thaw, fzAll, loA, hiA, elemOf, partsA, buildA, putCells, ↓reduceIte, reduceCtorEq, okCell, Nat.reduceAdd, Nat.reduceEqDiff, Nat.reduceSub, Nat.reduceMul, Nat.reduceLeDiff, Nat.reduceLT, Nat.reduceBEq, PV.scal, PV.scalL, SV.scal, SV.scalL, Ob.scal, PV.isCell, pure', resO]
    exact finA_val (by simp [hkb, retA, rvA, List.mapM_cons, List.mapM_nil, Option.pure_def, Option.bind_eq_bind, Option.bind_some, Option.map_some, mkE_cons, mk_nil, mkO_cons, mkO_nil, loadA, ↓reduceIte, List.take_succ_cons, List.take_zero, List.drop_zero, List.drop_succ_cons, List.length_cons, List.length_nil, Nat.reduceAdd, Nat.reduceEqDiff, Nat.reduceLeDiff, Nat.zero_add, Nat.le_refl, reduceCtorEq, SV.tr, SV.trL, nmF, rn_nil, rn_cons1, rn_cons2, List.map_cons, List.map_nil, List.all_cons, List.all_nil, plainOb, SV.refsL, SV.refs, Ob.refs, X, F, List.range_succ, List.range_zero, List.nil_append, List.cons_append, List.isEmpty_nil, decide_true, Nat.reduceLT, Bool.and_self, Bool.and_true, and_self, and_true, List.getElem?_cons_zero, List.getElem?_cons_succ, List.nodup_cons, List.nodup_nil, List.mem_cons, List.not_mem_nil, not_false_eq_true, or_false, List.append_nil, mkO, setO_mk, List.mem_singleton]) (by simp [SV.tr, SV.trL])
def valG (nk : Nat → Nat) (k key : Nat) : Int := if nk key ≤ k then (nk key : Int) else -1
def tabG (nk : Nat → Nat) (T k : Nat) : List Int := (List.range T).map (valG nk k)
def lfG (nk : Nat → Nat) (T k : Nat) : List Nat := (List.range T).filter fun key => decide (k < nk key)
theorem tabG_len (nk : Nat → Nat) (T k : Nat) : (tabG nk T k).length = T := by simp [tabG]
theorem tabG_get {nk : Nat → Nat} {T k key : Nat} (h : key < T) : (ints (tabG nk T k))[key]? = some (.int .i64 (valG nk k key)) := by
  rw [ints_get (by rw [tabG_len]; exact h), getD_lt (by rw [tabG_len]; exact h)]; simp [tabG]
theorem lfG_next {nk : Nat → Nat} {T k : Nat} : (lfG nk T k).filter (fun key => !decide (nk key ≤ k + 1)) = lfG nk T (k + 1) := by
  simp only [lfG, List.filter_filter]
  apply List.filter_congr
  intro key _
  rw [Bool.eq_iff_iff]
  simp only [Bool.and_eq_true, Bool.not_eq_true', decide_eq_true_eq, decide_eq_false_iff_not]
  omega
theorem lfG_len (nk : Nat → Nat) (T k : Nat) : (lfG nk T k).length ≤ T := by
  have := List.length_filter_le (fun key => decide (k < nk key)) (List.range T)
  rw [List.length_range] at this
  exact this
theorem lfG_mem {nk : Nat → Nat} {T k key : Nat} (h : key ∈ lfG nk T k) : key < T ∧ k < nk key := by
  simpa only [lfG, List.mem_filter, List.mem_range, decide_eq_true_eq] using h
def stG (nk : Nat → Nat) (T k : Nat) (L : List Nat) : List Int := (List.range T).map fun key => if key ∈ L then ((k + 1 : Nat) : Int) else valG nk k key
theorem stG_0 (nk : Nat → Nat) (T k : Nat) : stG nk T k [] = tabG nk T k := by simp [stG, tabG]
theorem stG_len (nk : Nat → Nat) (T k : Nat) (L : List Nat) : (stG nk T k L).length = T := by simp [stG]
theorem stG_one (nk : Nat → Nat) (T k : Nat) (L : List Nat) (q : Nat) : (stG nk T k L).set q ((k + 1 : Nat) : Int) = stG nk T k (L ++ [q]) := by
  rw [stG, range_set, stG]
  apply List.map_congr_left
  intro x _
  by_cases h : x = q
  · simp [h]
  · simp [h]
theorem stG_end {nk : Nat → Nat} {T k : Nat} : stG nk T k ((lfG nk T k).filter fun key => decide (nk key ≤ k + 1)) = tabG nk T (k + 1) := by
  rw [stG, tabG]
  apply List.map_congr_left
  intro key hk
  have hk2 := List.mem_range.1 hk
  by_cases h1 : nk key ≤ k
  · have hn : key ∉ (lfG nk T k).filter fun key => decide (nk key ≤ k + 1) := fun h => by
      have := lfG_mem (List.mem_filter.1 h).1; omega
    rw [if_neg hn, valG, valG, if_pos h1, if_pos (by omega)]
  · by_cases h2 : nk key ≤ k + 1
    · have hy : key ∈ (lfG nk T k).filter fun key => decide (nk key ≤ k + 1) := by
        refine List.mem_filter.2 ⟨List.mem_filter.2 ⟨hk, ?_⟩, dec_t h2⟩
        rw [dec_t (show k < nk key by omega)]
      rw [if_pos hy, valG, if_pos h2]; omega
    · have hn : key ∉ (lfG nk T k).filter fun key => decide (nk key ≤ k + 1) := fun h => by
        have := (List.mem_filter.1 h).2; simp at this; omega
      rw [if_neg hn, valG, valG, if_neg h1, if_neg h2]
def stH (nk : Nat → Nat) (T i : Nat) : List Int := (List.range T).map fun key => if key < i then valG nk 0 key else 0
theorem stH_len (nk : Nat → Nat) (T i : Nat) : (stH nk T i).length = T := by simp [stH]
theorem stH_0 (nk : Nat → Nat) (T : Nat) : List.replicate T (0 : Int) = stH nk T 0 := by
  apply List.ext_getElem
  · simp [stH]
  · intro i h1 h2; simp [stH]
theorem stH_end (nk : Nat → Nat) (T : Nat) : stH nk T T = tabG nk T 0 := by
  rw [stH, tabG]
  apply List.map_congr_left
  intro key hk
  rw [if_pos (List.mem_range.1 hk)]
theorem stH_one {nk : Nat → Nat} {T i : Nat} : (stH nk T i).set i (valG nk 0 i) = stH nk T (i + 1) := by
  rw [stH, range_set, stH]
  apply List.map_congr_left
  intro x _
  by_cases h : x = i
  · rw [if_pos h, if_pos (by omega), h]
  · rw [if_neg h]
    by_cases h2 : x < i
    · rw [if_pos h2, if_pos (by omega)]
    · rw [if_neg h2, if_neg (by omega)]
def lfH (nk : Nat → Nat) (i : Nat) : List Nat := (List.range i).filter fun key => decide (0 < nk key)
theorem lfH_end (nk : Nat → Nat) (T : Nat) : lfH nk T = lfG nk T 0 := rfl
theorem lfH_yes {nk : Nat → Nat} {i : Nat} (h : 0 < nk i) : lfH nk i ++ [i] = lfH nk (i + 1) := by
  simp only [lfH, List.range_succ, List.filter_append, List.filter_cons, dec_t h, List.filter_nil, if_true]
theorem lfH_no {nk : Nat → Nat} {i : Nat} (h : ¬ 0 < nk i) : lfH nk (i + 1) = lfH nk i := by
  simp only [lfH, List.range_succ, List.filter_append, List.filter_cons, dec_f h, List.filter_nil, Bool.false_eq_true, if_false, List.append_nil]
theorem lfH_len (nk : Nat → Nat) (i : Nat) : (lfH nk i).length ≤ i := by
  have := List.length_filter_le (fun key => decide (0 < nk key)) (List.range i)
  rw [List.length_range] at this
  exact this
theorem tabG_done {nk : Nat → Nat} {T k : Nat} (h : lfG nk T k = []) : tabG nk T k = (List.range T).map fun key => (nk key : Int) := by
  rw [tabG]
  apply List.map_congr_left
  intro key hk
  have : ¬ k < nk key := fun g => by
    have : key ∈ lfG nk T k := List.mem_filter.2 ⟨hk, dec_t g⟩
    rw [h] at this; cases this
  rw [valG, if_pos (by omega)]
/-- The needs by keys. -/
def nkS (m : Int) (n key : Nat) : Nat := (lnT m (dgB (m + 2).toNat n key)).toNat
theorem nk_ky {m : Int} {x : List Int} (h : isSh x m = true) : (nkS m x.length (kyL (m + 2) x).toNat : Int) = lnT m x ∧ (kyL (m + 2) x).toNat < (m + 2).toNat ^ x.length := by
  obtain ⟨h1, h5, hm, _⟩ := sh_out h
  have hb := kyL_bd (b := (m + 2).toNat) (by omega) (sh_in h).1
  have hd := dg_ky (b := (m + 2).toNat) (by omega) (sh_in h).1
  have e : ((m + 2).toNat : Int) = m + 2 := by omega
  rw [e] at hb hd
  refine ⟨?_, by omega⟩
  rw [nkS, hd]
  have := (CS.of h).lt
  omega
theorem dg_sh {m : Int} {n key : Nat} (hm : m = 0 ∨ m = 1) (h1 : 1 ≤ n) (h5 : n ≤ 5) : isSh (dgB (m + 2).toNat n key) m = true := by
  refine sh_mk (by rw [dgB_len]; exact h1) (by rw [dgB_len]; exact h5) hm ?_
  have : ∀ b : Nat, 0 < b → ∀ n key, ∀ v ∈ dgB b n key, -1 ≤ v ∧ v + 1 < b := by
    intro b hb n
    induction n with
    | zero => intro key v hv; simp [dgB] at hv
    | succ n ih =>
      intro key v hv
      simp only [dgB, List.mem_append, List.mem_singleton] at hv
      rcases hv with hv | rfl
      · exact ih _ v hv
      · have := Nat.mod_lt key hb
        omega
  intro v hv
  have := this (m + 2).toNat (by omega) n key v hv
  omega
theorem nk_dg {m : Int} {n key : Nat} (hm : m = 0 ∨ m = 1) (h1 : 1 ≤ n) (h5 : n ≤ 5) : (nkS m n key : Int) = lnT m (dgB (m + 2).toNat n key) := by
  have := (CS.of (dg_sh (key := key) hm h1 h5)).lt
  rw [nkS]; omega
theorem nk_top : ([0, 1].all fun m : Nat => [1, 2, 3, 4, 5].all fun n => (tblL m n).all fun v => decide (v ≤ 6)) = true := by decide +kernel
theorem nk_6 {m : Int} {n key : Nat} (hm : m = 0 ∨ m = 1) (h1 : 1 ≤ n) (h5 : n ≤ 5) (hk : key < (m + 2).toNat ^ n) : nkS m n key ≤ 6 := by
  have hn : n ∈ [1, 2, 3, 4, 5] := by simp; omega
  have hl := tbl_rng hm h1 h5
  have hall : ∀ v ∈ tblL m n, v ≤ 6 := by
    rcases hm with rfl | rfl
    · have := List.all_eq_true.1 (List.all_eq_true.1 nk_top 0 (by simp)) n hn
      intro v hv; simpa using List.all_eq_true.1 this v hv
    · have := List.all_eq_true.1 (List.all_eq_true.1 nk_top 1 (by simp)) n hn
      intro v hv; simpa using List.all_eq_true.1 this v hv
  have := hall (lnT m (dgB (m + 2).toNat n key)) (by rw [hl]; exact List.mem_map.2 ⟨key, List.mem_range.2 hk, rfl⟩)
  rw [nkS]; omega
theorem tab_end {m : Int} {n k : Nat} (hm : m = 0 ∨ m = 1) (h1 : 1 ≤ n) (h5 : n ≤ 5) (h : lfG (nkS m n) ((m + 2).toNat ^ n) k = []) : tabG (nkS m n) ((m + 2).toNat ^ n) k = tblL m n := by
  rw [tabG_done h, tbl_rng hm h1 h5]
  apply List.map_congr_left
  intro key _
  exact nk_dg hm h1 h5
/-- What one comparison tells in a round. -/
def hitR (m : Int) (x : List Int) (r j : Nat) : Bool := decide (lnT m (aftL m (j + 1) true x) ≤ r) && decide (lnT m (aftL m (j + 1) false x) ≤ r)
end Go.Proofs.Ytgnclbdhpdjafaa.Pam
