/- A part of the proof that stands in this folder: a small machine whose steps are shown to be the steps of the model, or walks of functions by it. No condition of its own. -/
import Derived.Test.YtnonkjcklgihhaaLL
set_option linter.unusedVariables false
set_option linter.unusedSimpArgs false
namespace Go.Proofs.Ytnonkjcklgihhaa.Pam
open Go
/-! the laws of one who lies at a secret -/
def a_x_CountSecretAnswers (f_szState : FuncId) (f_toState : FuncId) (f_toIntS : FuncId) (f_s_CountSecretAnswers : FuncId) (f_CountSecretAnswers : FuncId) (f_eqState : FuncId) (f_eqIntS : FuncId) : AFn := ⟨3, 
  .seq (.reg [⟨some 3, none, .w (.box 2 (.t 0))⟩,
    ⟨some 6, none, .d (.mv (.c (.bool false)))⟩])
  (.seq (.seq (.reg [⟨some 14, none, .d (.mv (.t 1))⟩,
    ⟨some 15, none, .d (.len (.t 14))⟩,
    ⟨some 16, none, .d (.bin .arith .gtr (.t 15) (.c (.int .i64 1048576)))⟩])
  (.cond (.t 16) (.seq (.reg [⟨some 6, none, .d (.mv (.c (.bool true)))⟩])
   (.ret)) (.skip)))
  (.seq (.reg [⟨some 7, none, .d (.mv (.c (.int .i64 1048576)))⟩])
  (.seq (.reg [⟨some 17, none, .d (.load true 2 (.t 3))⟩,
    ⟨some 18, none, .d (.mv (.t 7))⟩,
    ⟨some 19, none, .d (.call (.f f_szState) [(.t 17), (.t 18)])⟩,
    ⟨some 7, none, .d (.mv (.t 19))⟩])
  (.seq (.seq (.reg [⟨some 20, none, .d (.mv (.t 7))⟩,
    ⟨some 21, none, .d (.bin .arith .lss (.t 20) (.c (.int .i64 0)))⟩])
  (.cond (.t 21) (.seq (.reg [⟨some 6, none, .d (.mv (.c (.bool true)))⟩])
   (.ret)) (.skip)))
  (.seq (.reg [⟨some 23, none, .d (.load true 2 (.t 3))⟩,
    ⟨some 24, none, .d (.call (.f f_toState) [(.t 23)])⟩,
    ⟨some 25, none, .d (.mv (.t 1))⟩,
    ⟨some 26, none, .d (.call (.f f_toIntS) [(.t 25)])⟩,
    ⟨some 27, none, .d (.mv (.t 2))⟩,
    ⟨some 28, none, .d (.call (.f f_s_CountSecretAnswers) [(.t 24), (.t 26), (.t 27)])⟩,
    ⟨some 22, none, .d (.mv (.t 28))⟩,
    ⟨some 29, none, .d (.extract (.t 22) 0)⟩,
    ⟨some 30, none, .d (.extract (.t 22) 1)⟩,
    ⟨some 8, none, .d (.mv (.t 29))⟩,
    ⟨some 9, none, .d (.mv (.t 30))⟩])
  (.seq (.reg [⟨some 31, none, .d (.load true 2 (.t 3))⟩,
    ⟨some 32, none, .d (.call (.f f_toState) [(.t 31)])⟩,
    ⟨some 10, none, .w (.alloc [.nilsl, .int .i64 0])⟩,
    ⟨none, none, .w (.store 2 (.t 10) (.t 32))⟩])
  (.seq (.reg [⟨some 33, none, .d (.mv (.t 1))⟩,
    ⟨some 34, none, .d (.call (.f f_toIntS) [(.t 33)])⟩,
    ⟨some 11, none, .d (.mv (.t 34))⟩])
  (.seq (.reg [⟨some 36, none, .d (.load true 2 (.t 10))⟩,
    ⟨some 37, none, .d (.mv (.t 11))⟩,
    ⟨some 38, none, .d (.mv (.t 2))⟩,
    ⟨some 39, none, .d (.call (.f f_CountSecretAnswers) [(.t 36), (.t 37), (.t 38)])⟩,
    ⟨some 35, none, .d (.mv (.t 39))⟩,
    ⟨some 40, none, .d (.extract (.t 35) 0)⟩,
    ⟨some 41, none, .d (.extract (.t 35) 1)⟩,
    ⟨some 12, none, .d (.mv (.t 40))⟩,
    ⟨some 13, none, .d (.mv (.t 41))⟩])
  (.seq (.seq (.reg [⟨some 42, none, .d (.mv (.t 12))⟩,
    ⟨some 43, none, .d (.mv (.t 8))⟩,
    ⟨some 44, none, .d (.bin .arith .neq (.t 42) (.t 43))⟩,
    ⟨some 45, none, .d (.mv (.t 44))⟩,
    ⟨some 46, some (45, false), .d (.mv (.t 13))⟩,
    ⟨some 47, some (45, false), .d (.mv (.t 9))⟩,
    ⟨some 48, some (45, false), .d (.bin .bool .neq (.t 46) (.t 47))⟩,
    ⟨some 49, none, .d (.pick (.t 45) (.c (.bool true)) (.t 48))⟩])
  (.cond (.t 49) (.seq (.reg [⟨some 6, none, .d (.mv (.c (.bool false)))⟩])
   (.ret)) (.skip)))
  (.seq (.seq (.dreg [] [([], ⟨some 50, none, .d (.load true 2 (.t 10))⟩),
    ([], ⟨some 51, none, .d (.load true 2 (.t 3))⟩),
    ([], ⟨some 52, none, .d (.call (.f f_toState) [(.t 51)])⟩)] [⟨some 53, none, .d (.call (.f f_eqState) [(.t 50), (.t 52)])⟩,
    ⟨some 54, none, .d (.not (.t 53))⟩])
  (.cond (.t 54) (.seq (.reg [⟨some 6, none, .d (.mv (.c (.bool false)))⟩])
   (.ret)) (.skip)))
  (.seq (.seq (.reg [⟨some 55, none, .d (.mv (.t 11))⟩,
    ⟨some 56, none, .d (.mv (.t 1))⟩,
    ⟨some 57, none, .d (.call (.f f_toIntS) [(.t 56)])⟩,
    ⟨some 58, none, .d (.call (.f f_eqIntS) [(.t 55), (.t 57)])⟩,
    ⟨some 59, none, .d (.not (.t 58))⟩])
  (.cond (.t 59) (.seq (.reg [⟨some 6, none, .d (.mv (.c (.bool false)))⟩])
   (.ret)) (.skip)))
  (.seq (.reg [⟨some 6, none, .d (.mv (.c (.bool true)))⟩])
  (.ret))))))))))))), [.tmp 6]⟩
def n_x_CountSecretAnswers : Nat → Option Ann := fun _ => none
abbrev k_x_CountSecretAnswers : List Nat := [0, 1, 2, 3, 6, 7, 8, 9, 10, 11, 12, 13, 16, 21, 49, 54, 59]
abbrev o_x_CountSecretAnswers : List Nat := [3, 10]
def c_x_CountSecretAnswers : Con := pure' fun
  | [.p (.agg [v, .int .i64 m]), .p u, .p (.int .i64 k)] => match slI v, slI u with
    | some x, some l => if x.length ≤ 9223372036854775807 ∧ l.length ≤ 9223372036854775807 then some (.p (.bool true), []) else none
    | _, _ => none
  | _ => none
set_option maxRecDepth 100000 in
theorem s_x_CountSecretAnswers {P : Program} (hm : P.follows .mixedOrders = true) {Γ : Gam} (hΓ : GS P Γ) {n : FuncId} {f_szState : FuncId} {f_toState : FuncId} {f_toIntS : FuncId} {f_s_CountSecretAnswers : FuncId} {f_CountSecretAnswers : FuncId} {f_eqState : FuncId} {f_eqIntS : FuncId} (is : Is P n (a_x_CountSecretAnswers f_szState f_toState f_toIntS f_s_CountSecretAnswers f_CountSecretAnswers f_eqState f_eqIntS)) (h_szState : Γ f_szState = c_szState) (h_toState : Γ f_toState = c_toState) (h_toIntS : Γ f_toIntS = c_toIntS) (h_s_CountSecretAnswers : Γ f_s_CountSecretAnswers = c_CountSecretAnswers) (h_CountSecretAnswers : Γ f_CountSecretAnswers = c_CountSecretAnswers) (h_eqState : Γ f_eqState = c_eqState) (h_eqIntS : Γ f_eqIntS = c_eqIntS)  : Says P n c_x_CountSecretAnswers := by
  refine Says.pure fun args r fs h => ?_
  split at h
  case h_2 => cases h
  rename_i v m u k
  split at h
  case h_2 => cases h
  rename_i x l hx hu
  split at h
  case isFalse => cases h
  rename_i hc
  simp only [Option.some.injEq, Prod.mk.injEq] at h
  obtain ⟨rfl, rfl⟩ := h
  have hlp := slI_lenP hx
  have hlu := slI_len hu
  by_cases hku : (l.length : Int) > 1048576
  · refine is.go hm hΓ k_x_CountSecretAnswers o_x_CountSecretAnswers (by simp [a_x_CountSecretAnswers]) ?_
    simp only [a_x_CountSecretAnswers, h_szState, c_szState, h_toState, c_toState, h_toIntS, c_toIntS, h_s_CountSecretAnswers, c_CountSecretAnswers, h_CountSecretAnswers, c_CountSecretAnswers, h_eqState, c_eqState, h_eqIntS, c_eqIntS, hlp, hlu, hc, hku, Int.reduceLE, Int.reduceNeg, Int.reduceLT, List.zipIdx_cons, List.zipIdx_nil, ↓SP, SQ, Gam.add, stepM, callC, argC, lendO, nmBy, nmC, likeL, likeB, plainOb, offs, X, F, trP, trO, stepD, stepW, newA, SV.tr, SV.trL, fz, allP, Ob.tr, loadA, cellsA, SV.cells, binA, binI, eqOut, isSl, isPt, natOf, callee, snap, SV.refsL, SV.refs, thaw, fzAll, loA, hiA, elemOf, partsA, buildA, putCells, ↓reduceIte, reduceCtorEq, okCell, Nat.reduceAdd, Nat.reduceEqDiff, Nat.reduceSub, Nat.reduceMul, Nat.reduceLeDiff, Nat.reduceLT, Nat.reduceBEq, PV.scal, PV.scalL, SV.scal, SV.scalL, Ob.scal, PV.isCell, pure', resO]
    exact finA_val (by simp [retA, rvA, List.mapM_cons, List.mapM_nil, Option.pure_def, Option.bind_eq_bind, Option.bind_some, Option.map_some, mkE_cons, mk_nil, mkO_cons, mkO_nil, loadA, ↓reduceIte, List.take_succ_cons, List.take_zero, List.drop_zero, List.drop_succ_cons, List.length_cons, List.length_nil, Nat.reduceAdd, Nat.reduceEqDiff, Nat.reduceLeDiff, Nat.zero_add, Nat.le_refl, reduceCtorEq, SV.tr, SV.trL, nmF, rn_nil, rn_cons1, rn_cons2, List.map_cons, List.map_nil, List.all_cons, List.all_nil, plainOb, SV.refsL, SV.refs, Ob.refs, X, F, List.range_succ, List.range_zero, List.nil_append, List.cons_append, List.isEmpty_nil, decide_true, Nat.reduceLT, Bool.and_self, Bool.and_true, and_self, and_true, List.getElem?_cons_zero, List.getElem?_cons_succ, List.nodup_cons, List.nodup_nil, List.mem_cons, List.not_mem_nil, not_false_eq_true, or_false, List.append_nil, mkO, setO_mk, List.mem_singleton]) (by simp [SV.tr, SV.trL])
  · by_cases hk : (1048576 : Int) - (x.length : Int) < 0
    · refine is.go hm hΓ k_x_CountSecretAnswers o_x_CountSecretAnswers (by simp [a_x_CountSecretAnswers]) ?_
      simp only [a_x_CountSecretAnswers, h_szState, c_szState, h_toState, c_toState, h_toIntS, c_toIntS, h_s_CountSecretAnswers, c_CountSecretAnswers, h_CountSecretAnswers, c_CountSecretAnswers, h_eqState, c_eqState, h_eqIntS, c_eqIntS, hlp, hlu, hc, hk, hku, Int.reduceLE, Int.reduceNeg, Int.reduceLT, List.zipIdx_cons, List.zipIdx_nil, ↓SP, SQ, Gam.add, stepM, callC, argC, lendO, nmBy, nmC, likeL, likeB, plainOb, offs, X, F, trP, trO, stepD, stepW, newA, SV.tr, SV.trL, fz, allP, Ob.tr, loadA, cellsA, SV.cells, binA, binI, eqOut, isSl, isPt, natOf, callee, snap, SV.refsL, SV.refs, thaw, fzAll, loA, hiA, elemOf, partsA, buildA, putCells, ↓reduceIte, reduceCtorEq, okCell, Nat.reduceAdd, Nat.reduceEqDiff, Nat.reduceSub, Nat.reduceMul, Nat.reduceLeDiff, Nat.reduceLT, Nat.reduceBEq, PV.scal, PV.scalL, SV.scal, SV.scalL, Ob.scal, PV.isCell, pure', resO]
      exact finA_val (by simp [retA, rvA, List.mapM_cons, List.mapM_nil, Option.pure_def, Option.bind_eq_bind, Option.bind_some, Option.map_some, mkE_cons, mk_nil, mkO_cons, mkO_nil, loadA, ↓reduceIte, List.take_succ_cons, List.take_zero, List.drop_zero, List.drop_succ_cons, List.length_cons, List.length_nil, Nat.reduceAdd, Nat.reduceEqDiff, Nat.reduceLeDiff, Nat.zero_add, Nat.le_refl, reduceCtorEq, SV.tr, SV.trL, nmF, rn_nil, rn_cons1, rn_cons2, List.map_cons, List.map_nil, List.all_cons, List.all_nil, plainOb, SV.refsL, SV.refs, Ob.refs, X, F, List.range_succ, List.range_zero, List.nil_append, List.cons_append, List.isEmpty_nil, decide_true, Nat.reduceLT, Bool.and_self, Bool.and_true, and_self, and_true, List.getElem?_cons_zero, List.getElem?_cons_succ, List.nodup_cons, List.nodup_nil, List.mem_cons, List.not_mem_nil, not_false_eq_true, or_false, List.append_nil, mkO, setO_mk, List.mem_singleton]) (by simp [SV.tr, SV.trL])
    · have hlen : x.length ≤ 1048576 := by omega
      have hlen2 : x.length ≤ 1100000 := by omega
      have hlen3 : l.length ≤ 1048576 := by omega
      have hlen4 : l.length ≤ 1100000 := by omega
      generalize hg1 : (if (isL x m l && opn x k) = true then wtN x m k.toNat l.length else 0) = b1 at *
      generalize hg2 : (isL x m l && opn x k) = b2 at *
      refine is.go hm hΓ k_x_CountSecretAnswers o_x_CountSecretAnswers (by simp [a_x_CountSecretAnswers]) ?_
      simp only [a_x_CountSecretAnswers, h_szState, c_szState, h_toState, c_toState, h_toIntS, c_toIntS, h_s_CountSecretAnswers, c_CountSecretAnswers, h_CountSecretAnswers, c_CountSecretAnswers, h_eqState, c_eqState, h_eqIntS, c_eqIntS, hx, hu, hlp, hlu, hc, hk, hku, hlen, hlen2, hlen3, hlen4, hg1, hg2, slI_sl, beq_self_eq_true, Bool.not_true, Int.reduceLE, Int.reduceNeg, Int.reduceLT, bne_self_eq_false, List.zipIdx_cons, List.zipIdx_nil, ↓SP, SQ, Gam.add, stepM, callC, argC, lendO, nmBy, nmC, likeL, likeB, plainOb, offs, X, F, trP, trO, stepD, stepW, newA, SV.tr, SV.trL, fz, allP, Ob.tr, loadA, cellsA, SV.cells, binA, binI, eqOut, isSl, isPt, natOf, callee, snap, SV.refsL, SV.refs, thaw, fzAll, loA, hiA, elemOf, partsA, buildA, putCells, ↓reduceIte, reduceCtorEq, okCell, Nat.reduceAdd, Nat.reduceEqDiff, Nat.reduceSub, Nat.reduceMul, Nat.reduceLeDiff, Nat.reduceLT, Nat.reduceBEq, PV.scal, PV.scalL, SV.scal, SV.scalL, Ob.scal, PV.isCell, pure', resO]
      exact finA_val (by simp [retA, rvA, List.mapM_cons, List.mapM_nil, Option.pure_def, Option.bind_eq_bind, Option.bind_some, Option.map_some, mkE_cons, mk_nil, mkO_cons, mkO_nil, loadA, ↓reduceIte, List.take_succ_cons, List.take_zero, List.drop_zero, List.drop_succ_cons, List.length_cons, List.length_nil, Nat.reduceAdd, Nat.reduceEqDiff, Nat.reduceLeDiff, Nat.zero_add, Nat.le_refl, reduceCtorEq, SV.tr, SV.trL, nmF, rn_nil, rn_cons1, rn_cons2, List.map_cons, List.map_nil, List.all_cons, List.all_nil, plainOb, SV.refsL, SV.refs, Ob.refs, X, F, List.range_succ, List.range_zero, List.nil_append, List.cons_append, List.isEmpty_nil, decide_true, Nat.reduceLT, Bool.and_self, Bool.and_true, and_self, and_true, List.getElem?_cons_zero, List.getElem?_cons_succ, List.nodup_cons, List.nodup_nil, List.mem_cons, List.not_mem_nil, not_false_eq_true, or_false, List.append_nil, mkO, setO_mk, List.mem_singleton]) (by simp [SV.tr, SV.trL])
def a_x_SecretAnswers (f_szState : FuncId) (f_toState : FuncId) (f_toIntS : FuncId) (f_s_SecretAnswers : FuncId) (f_SecretAnswers : FuncId) (f_eqBoolS : FuncId) (f_eqState : FuncId) (f_eqIntS : FuncId) (f_markState : FuncId) (f_markIntS : FuncId) (f_markBoolS : FuncId) (f_heldBoolS : FuncId) : AFn := ⟨3, 
  .seq (.reg [⟨some 3, none, .w (.box 2 (.t 0))⟩,
    ⟨some 6, none, .d (.mv (.c (.bool false)))⟩])
  (.seq (.seq (.reg [⟨some 19, none, .d (.mv (.t 1))⟩,
    ⟨some 20, none, .d (.len (.t 19))⟩,
    ⟨some 21, none, .d (.bin .arith .gtr (.t 20) (.c (.int .i64 1048576)))⟩])
  (.cond (.t 21) (.seq (.reg [⟨some 6, none, .d (.mv (.c (.bool true)))⟩])
   (.ret)) (.skip)))
  (.seq (.reg [⟨some 7, none, .d (.mv (.c (.int .i64 1048576)))⟩])
  (.seq (.reg [⟨some 22, none, .d (.load true 2 (.t 3))⟩,
    ⟨some 23, none, .d (.mv (.t 7))⟩,
    ⟨some 24, none, .d (.call (.f f_szState) [(.t 22), (.t 23)])⟩,
    ⟨some 7, none, .d (.mv (.t 24))⟩])
  (.seq (.seq (.reg [⟨some 25, none, .d (.mv (.t 7))⟩,
    ⟨some 26, none, .d (.bin .arith .lss (.t 25) (.c (.int .i64 0)))⟩])
  (.cond (.t 26) (.seq (.reg [⟨some 6, none, .d (.mv (.c (.bool true)))⟩])
   (.ret)) (.skip)))
  (.seq (.reg [⟨some 28, none, .d (.load true 2 (.t 3))⟩,
    ⟨some 29, none, .d (.call (.f f_toState) [(.t 28)])⟩,
    ⟨some 30, none, .d (.mv (.t 1))⟩,
    ⟨some 31, none, .d (.call (.f f_toIntS) [(.t 30)])⟩,
    ⟨some 32, none, .d (.mv (.t 2))⟩,
    ⟨some 33, none, .d (.call (.f f_s_SecretAnswers) [(.t 29), (.t 31), (.t 32)])⟩,
    ⟨some 27, none, .d (.mv (.t 33))⟩,
    ⟨some 34, none, .d (.extract (.t 27) 0)⟩,
    ⟨some 35, none, .d (.extract (.t 27) 1)⟩,
    ⟨some 8, none, .d (.mv (.t 34))⟩,
    ⟨some 9, none, .d (.mv (.t 35))⟩])
  (.seq (.reg [⟨some 36, none, .d (.load true 2 (.t 3))⟩,
    ⟨some 37, none, .w (.callL (.f f_toState) [(.t 36)] [] 1 false)⟩,
    ⟨some 10, none, .w (.alloc [.nilsl, .int .i64 0])⟩,
    ⟨none, none, .w (.store 2 (.t 10) (.t 37))⟩])
  (.seq (.reg [⟨some 38, none, .d (.mv (.t 1))⟩,
    ⟨some 39, none, .w (.callL (.f f_toIntS) [(.t 38)] [] 1 false)⟩,
    ⟨some 11, none, .d (.mv (.t 39))⟩])
  (.seq (.reg [⟨some 41, none, .d (.load true 2 (.t 10))⟩,
    ⟨some 42, none, .d (.mv (.t 11))⟩,
    ⟨some 43, none, .d (.mv (.t 2))⟩,
    ⟨some 44, none, .w (.callL (.f f_SecretAnswers) [(.t 41), (.t 42), (.t 43)] [] 1 false)⟩,
    ⟨some 40, none, .d (.mv (.t 44))⟩,
    ⟨some 45, none, .d (.extract (.t 40) 0)⟩,
    ⟨some 46, none, .d (.extract (.t 40) 1)⟩,
    ⟨some 12, none, .d (.mv (.t 45))⟩,
    ⟨some 13, none, .d (.mv (.t 46))⟩])
  (.seq (.seq (.reg [⟨some 47, none, .d (.mv (.t 12))⟩,
    ⟨some 48, none, .d (.mv (.t 8))⟩,
    ⟨some 49, none, .d (.call (.f f_eqBoolS) [(.t 47), (.t 48)])⟩,
    ⟨some 50, none, .d (.not (.t 49))⟩,
    ⟨some 51, none, .d (.mv (.t 50))⟩,
    ⟨some 52, some (51, false), .d (.mv (.t 13))⟩,
    ⟨some 53, some (51, false), .d (.mv (.t 9))⟩,
    ⟨some 54, some (51, false), .d (.bin .bool .neq (.t 52) (.t 53))⟩,
    ⟨some 55, none, .d (.pick (.t 51) (.c (.bool true)) (.t 54))⟩])
  (.cond (.t 55) (.seq (.reg [⟨some 6, none, .d (.mv (.c (.bool false)))⟩])
   (.ret)) (.skip)))
  (.seq (.seq (.dreg [] [([], ⟨some 56, none, .d (.load true 2 (.t 10))⟩),
    ([], ⟨some 57, none, .d (.load true 2 (.t 3))⟩),
    ([], ⟨some 58, none, .d (.call (.f f_toState) [(.t 57)])⟩)] [⟨some 59, none, .d (.call (.f f_eqState) [(.t 56), (.t 58)])⟩,
    ⟨some 60, none, .d (.not (.t 59))⟩])
  (.cond (.t 60) (.seq (.reg [⟨some 6, none, .d (.mv (.c (.bool false)))⟩])
   (.ret)) (.skip)))
  (.seq (.seq (.reg [⟨some 61, none, .d (.mv (.t 11))⟩,
    ⟨some 62, none, .d (.mv (.t 1))⟩,
    ⟨some 63, none, .d (.call (.f f_toIntS) [(.t 62)])⟩,
    ⟨some 64, none, .d (.call (.f f_eqIntS) [(.t 61), (.t 63)])⟩,
    ⟨some 65, none, .d (.not (.t 64))⟩])
  (.cond (.t 65) (.seq (.reg [⟨some 6, none, .d (.mv (.c (.bool false)))⟩])
   (.ret)) (.skip)))
  (.seq (.reg [⟨some 14, none, .d (.mv (.c (.int .i64 1)))⟩])
  (.seq (.reg [⟨some 66, none, .d (.load true 2 (.t 10))⟩,
    ⟨some 67, none, .d (.mv (.t 14))⟩,
    ⟨some 68, none, .w (.callL (.f f_markState) [(.t 66), (.t 67)] [37] 0 false)⟩,
    ⟨some 14, none, .d (.mv (.t 68))⟩])
  (.seq (.reg [⟨some 69, none, .d (.mv (.t 11))⟩,
    ⟨some 70, none, .d (.mv (.t 14))⟩,
    ⟨some 71, none, .w (.callL (.f f_markIntS) [(.t 69), (.t 70)] [39] 0 false)⟩,
    ⟨some 14, none, .d (.mv (.t 71))⟩])
  (.seq (.seq (.reg [⟨some 72, none, .d (.mv (.t 14))⟩,
    ⟨some 73, none, .d (.bin .arith .lss (.t 72) (.c (.int .i64 0)))⟩,
    ⟨some 74, none, .d (.mv (.t 73))⟩,
    ⟨some 75, some (74, false), .d (.mv (.t 12))⟩,
    ⟨some 76, some (74, false), .d (.mv (.t 8))⟩,
    ⟨some 77, some (74, false), .d (.call (.f f_eqBoolS) [(.t 75), (.t 76)])⟩,
    ⟨some 78, some (74, false), .d (.not (.t 77))⟩,
    ⟨some 79, none, .d (.pick (.t 74) (.c (.bool true)) (.t 78))⟩,
    ⟨some 80, none, .d (.mv (.t 79))⟩,
    ⟨some 81, some (80, false), .d (.mv (.t 13))⟩,
    ⟨some 82, some (80, false), .d (.mv (.t 9))⟩,
    ⟨some 83, some (80, false), .d (.bin .bool .neq (.t 81) (.t 82))⟩,
    ⟨some 84, none, .d (.pick (.t 80) (.c (.bool true)) (.t 83))⟩])
  (.cond (.t 84) (.seq (.reg [⟨some 6, none, .d (.mv (.c (.bool false)))⟩])
   (.ret)) (.skip)))
  (.seq (.reg [⟨some 15, none, .d (.mv (.c (.int .i64 1)))⟩])
  (.seq (.reg [⟨some 85, none, .d (.mv (.t 12))⟩,
    ⟨some 86, none, .d (.mv (.t 15))⟩,
    ⟨some 87, none, .w (.callL (.f f_markBoolS) [(.t 85), (.t 86)] [44] 0 false)⟩,
    ⟨some 15, none, .d (.mv (.t 87))⟩])
  (.seq (.reg [⟨some 16, none, .d (.mv (.c (.int .i64 1)))⟩])
  (.seq (.reg [⟨some 88, none, .d (.mv (.t 12))⟩,
    ⟨some 89, none, .d (.mv (.t 16))⟩,
    ⟨some 90, none, .d (.call (.f f_heldBoolS) [(.t 88), (.t 89)])⟩,
    ⟨some 16, none, .d (.mv (.t 90))⟩])
  (.seq (.seq (.reg [⟨some 91, none, .d (.mv (.t 16))⟩,
    ⟨some 92, none, .d (.bin .arith .lss (.t 91) (.c (.int .i64 0)))⟩])
  (.cond (.t 92) (.seq (.reg [⟨some 6, none, .d (.mv (.c (.bool false)))⟩])
   (.ret)) (.skip)))
  (.seq (.seq (.reg [⟨some 93, none, .d (.mv (.t 16))⟩,
    ⟨some 94, none, .d (.mv (.t 15))⟩,
    ⟨some 95, none, .d (.bin .arith .neq (.t 93) (.t 94))⟩])
  (.cond (.t 95) (.seq (.reg [⟨some 6, none, .d (.mv (.c (.bool false)))⟩])
   (.ret)) (.skip)))
  (.seq (.reg [⟨some 97, none, .d (.load true 2 (.t 3))⟩,
    ⟨some 98, none, .d (.call (.f f_toState) [(.t 97)])⟩,
    ⟨some 99, none, .d (.mv (.t 1))⟩,
    ⟨some 100, none, .d (.call (.f f_toIntS) [(.t 99)])⟩,
    ⟨some 101, none, .d (.mv (.t 2))⟩,
    ⟨some 102, none, .d (.call (.f f_SecretAnswers) [(.t 98), (.t 100), (.t 101)])⟩,
    ⟨some 96, none, .d (.mv (.t 102))⟩,
    ⟨some 103, none, .d (.extract (.t 96) 0)⟩,
    ⟨some 104, none, .d (.extract (.t 96) 1)⟩,
    ⟨some 17, none, .d (.mv (.t 103))⟩,
    ⟨some 18, none, .d (.mv (.t 104))⟩])
  (.seq (.seq (.reg [⟨some 105, none, .d (.mv (.t 17))⟩,
    ⟨some 106, none, .d (.mv (.t 8))⟩,
    ⟨some 107, none, .d (.call (.f f_eqBoolS) [(.t 105), (.t 106)])⟩,
    ⟨some 108, none, .d (.not (.t 107))⟩,
    ⟨some 109, none, .d (.mv (.t 108))⟩,
    ⟨some 110, some (109, false), .d (.mv (.t 18))⟩,
    ⟨some 111, some (109, false), .d (.mv (.t 9))⟩,
    ⟨some 112, some (109, false), .d (.bin .bool .neq (.t 110) (.t 111))⟩,
    ⟨some 113, none, .d (.pick (.t 109) (.c (.bool true)) (.t 112))⟩])
  (.cond (.t 113) (.seq (.reg [⟨some 6, none, .d (.mv (.c (.bool false)))⟩])
   (.ret)) (.skip)))
  (.seq (.reg [⟨some 16, none, .d (.mv (.c (.int .i64 1)))⟩])
  (.seq (.reg [⟨some 114, none, .d (.mv (.t 12))⟩,
    ⟨some 115, none, .d (.mv (.t 16))⟩,
    ⟨some 116, none, .d (.call (.f f_heldBoolS) [(.t 114), (.t 115)])⟩,
    ⟨some 16, none, .d (.mv (.t 116))⟩])
  (.seq (.seq (.reg [⟨some 117, none, .d (.mv (.t 16))⟩,
    ⟨some 118, none, .d (.bin .arith .lss (.t 117) (.c (.int .i64 0)))⟩])
  (.cond (.t 118) (.seq (.reg [⟨some 6, none, .d (.mv (.c (.bool false)))⟩])
   (.ret)) (.skip)))
  (.seq (.seq (.reg [⟨some 119, none, .d (.mv (.t 16))⟩,
    ⟨some 120, none, .d (.mv (.t 15))⟩,
    ⟨some 121, none, .d (.bin .arith .neq (.t 119) (.t 120))⟩])
  (.cond (.t 121) (.seq (.reg [⟨some 6, none, .d (.mv (.c (.bool false)))⟩])
   (.ret)) (.skip)))
  (.seq (.reg [⟨some 6, none, .d (.mv (.c (.bool true)))⟩])
  (.ret))))))))))))))))))))))))))))), [.tmp 6]⟩
def n_x_SecretAnswers : Nat → Option Ann := fun d => if d = 37 then some ⟨[], 1, false⟩ else if d = 39 then some ⟨[], 1, false⟩ else if d = 44 then some ⟨[], 1, false⟩ else if d = 68 then some ⟨[37], 0, false⟩ else if d = 71 then some ⟨[39], 0, false⟩ else if d = 87 then some ⟨[44], 0, false⟩ else none
abbrev k_x_SecretAnswers : List Nat := [0, 1, 2, 3, 6, 7, 8, 9, 10, 11, 12, 13, 14, 15, 16, 17, 18, 21, 26, 55, 60, 65, 84, 92, 95, 113, 118, 121]
abbrev o_x_SecretAnswers : List Nat := [3, 10, 37, 39, 44]
def c_x_SecretAnswers : Con := pure' fun
  | [.p (.agg [v, .int .i64 m]), .p u, .p (.int .i64 k)] => match slI v, slI u with
    | some x, some l => if x.length ≤ 9223372036854775807 ∧ l.length ≤ 9223372036854775807 then some (.p (.bool true), []) else none
    | _, _ => none
  | _ => none
set_option maxRecDepth 100000 in
theorem s_x_SecretAnswers {P : Program} (hm : P.follows .mixedOrders = true) {Γ : Gam} (hΓ : GS P Γ) {n : FuncId} {f_szState : FuncId} {f_toState : FuncId} {f_toIntS : FuncId} {f_s_SecretAnswers : FuncId} {f_SecretAnswers : FuncId} {f_eqBoolS : FuncId} {f_eqState : FuncId} {f_eqIntS : FuncId} {f_markState : FuncId} {f_markIntS : FuncId} {f_markBoolS : FuncId} {f_heldBoolS : FuncId} (is : Is P n (a_x_SecretAnswers f_szState f_toState f_toIntS f_s_SecretAnswers f_SecretAnswers f_eqBoolS f_eqState f_eqIntS f_markState f_markIntS f_markBoolS f_heldBoolS)) (h_szState : Γ f_szState = c_szState) (h_toState : Γ f_toState = c_toState) (h_toIntS : Γ f_toIntS = c_toIntS) (h_s_SecretAnswers : Γ f_s_SecretAnswers = c_s_SecretAnswers) (h_SecretAnswers : Γ f_SecretAnswers = c_SecretAnswers) (h_eqBoolS : Γ f_eqBoolS = c_eqBoolS) (h_eqState : Γ f_eqState = c_eqState) (h_eqIntS : Γ f_eqIntS = c_eqIntS) (h_markState : Γ f_markState = c_markState) (h_markIntS : Γ f_markIntS = c_markIntS) (h_markBoolS : Γ f_markBoolS = c_markBoolS) (h_heldBoolS : Γ f_heldBoolS = c_heldBoolS)  : Says P n c_x_SecretAnswers := by
  refine Says.pure fun args r fs h => ?_
  split at h
  case h_2 => cases h
  rename_i v m u k
  split at h
  case h_2 => cases h
  rename_i x l hx hu
  split at h
  case isFalse => cases h
  rename_i hc
  simp only [Option.some.injEq, Prod.mk.injEq] at h
  obtain ⟨rfl, rfl⟩ := h
  have hlp := slI_lenP hx
  have hlu := slI_len hu
  by_cases hku : (l.length : Int) > 1048576
  · refine is.go hm hΓ k_x_SecretAnswers o_x_SecretAnswers (by simp [a_x_SecretAnswers]) ?_
    simp only [a_x_SecretAnswers, h_szState, c_szState, h_toState, c_toState, h_toIntS, c_toIntS, h_s_SecretAnswers, c_s_SecretAnswers, h_SecretAnswers, c_SecretAnswers, h_eqBoolS, c_eqBoolS, h_eqState, c_eqState, h_eqIntS, c_eqIntS, h_markState, c_markState, h_markIntS, c_markIntS, h_markBoolS, c_markBoolS, h_heldBoolS, c_heldBoolS, hlp, hlu, hc, hku, Int.reduceLE, Int.reduceNeg, Int.reduceLT, List.zipIdx_cons, List.zipIdx_nil, ↓SP, SQ, Gam.add, stepM, callC, argC, lendO, nmBy, nmC, likeL, likeB, plainOb, offs, X, F, trP, trO, stepD, stepW, newA, SV.tr, SV.trL, fz, allP, Ob.tr, loadA, cellsA, SV.cells, binA, binI, eqOut, isSl, isPt, natOf, callee, snap, SV.refsL, SV.refs, thaw, fzAll, loA, hiA, elemOf, partsA, buildA, putCells, ↓reduceIte, reduceCtorEq, okCell, Nat.reduceAdd, Nat.reduceEqDiff, Nat.reduceSub, Nat.reduceMul, Nat.reduceLeDiff, Nat.reduceLT, Nat.reduceBEq, PV.scal, PV.scalL, SV.scal, SV.scalL, Ob.scal, PV.isCell, pure', resO]
    exact finA_val (by simp [retA, rvA, List.mapM_cons, List.mapM_nil, Option.pure_def, Option.bind_eq_bind, Option.bind_some, Option.map_some, mkE_cons, mk_nil, mkO_cons, mkO_nil, loadA, ↓reduceIte, List.take_succ_cons, List.take_zero, List.drop_zero, List.drop_succ_cons, List.length_cons, List.length_nil, Nat.reduceAdd, Nat.reduceEqDiff, Nat.reduceLeDiff, Nat.zero_add, Nat.le_refl, reduceCtorEq, SV.tr, SV.trL, nmF, rn_nil, rn_cons1, rn_cons2, List.map_cons, List.map_nil, List.all_cons, List.all_nil, plainOb, SV.refsL, SV.refs, Ob.refs, X, F, List.range_succ, List.range_zero, List.nil_append, List.cons_append, List.isEmpty_nil, decide_true, Nat.reduceLT, Bool.and_self, Bool.and_true, and_self, and_true, List.getElem?_cons_zero, List.getElem?_cons_succ, List.nodup_cons, List.nodup_nil, List.mem_cons, List.not_mem_nil, not_false_eq_true, or_false, List.append_nil, mkO, setO_mk, List.mem_singleton]) (by simp [SV.tr, SV.trL])
  · by_cases hk : (1048576 : Int) - (x.length : Int) < 0
    · refine is.go hm hΓ k_x_SecretAnswers o_x_SecretAnswers (by simp [a_x_SecretAnswers]) ?_
      simp only [a_x_SecretAnswers, h_szState, c_szState, h_toState, c_toState, h_toIntS, c_toIntS, h_s_SecretAnswers, c_s_SecretAnswers, h_SecretAnswers, c_SecretAnswers, h_eqBoolS, c_eqBoolS, h_eqState, c_eqState, h_eqIntS, c_eqIntS, h_markState, c_markState, h_markIntS, c_markIntS, h_markBoolS, c_markBoolS, h_heldBoolS, c_heldBoolS, hlp, hlu, hc, hk, hku, Int.reduceLE, Int.reduceNeg, Int.reduceLT, List.zipIdx_cons, List.zipIdx_nil, ↓SP, SQ, Gam.add, stepM, callC, argC, lendO, nmBy, nmC, likeL, likeB, plainOb, offs, X, F, trP, trO, stepD, stepW, newA, SV.tr, SV.trL, fz, allP, Ob.tr, loadA, cellsA, SV.cells, binA, binI, eqOut, isSl, isPt, natOf, callee, snap, SV.refsL, SV.refs, thaw, fzAll, loA, hiA, elemOf, partsA, buildA, putCells, ↓reduceIte, reduceCtorEq, okCell, Nat.reduceAdd, Nat.reduceEqDiff, Nat.reduceSub, Nat.reduceMul, Nat.reduceLeDiff, Nat.reduceLT, Nat.reduceBEq, PV.scal, PV.scalL, SV.scal, SV.scalL, Ob.scal, PV.isCell, pure', resO]
      exact finA_val (by simp [retA, rvA, List.mapM_cons, List.mapM_nil, Option.pure_def, Option.bind_eq_bind, Option.bind_some, Option.map_some, mkE_cons, mk_nil, mkO_cons, mkO_nil, loadA, ↓reduceIte, List.take_succ_cons, List.take_zero, List.drop_zero, List.drop_succ_cons, List.length_cons, List.length_nil, Nat.reduceAdd, Nat.reduceEqDiff, Nat.reduceLeDiff, Nat.zero_add, Nat.le_refl, reduceCtorEq, SV.tr, SV.trL, nmF, rn_nil, rn_cons1, rn_cons2, List.map_cons, List.map_nil, List.all_cons, List.all_nil, plainOb, SV.refsL, SV.refs, Ob.refs, X, F, List.range_succ, List.range_zero, List.nil_append, List.cons_append, List.isEmpty_nil, decide_true, Nat.reduceLT, Bool.and_self, Bool.and_true, and_self, and_true, List.getElem?_cons_zero, List.getElem?_cons_succ, List.nodup_cons, List.nodup_nil, List.mem_cons, List.not_mem_nil, not_false_eq_true, or_false, List.append_nil, mkO, setO_mk, List.mem_singleton]) (by simp [SV.tr, SV.trL])
    · have hlen : x.length ≤ 1048576 := by omega
      have hlen2 : x.length ≤ 1100000 := by omega
      have hlen3 : l.length ≤ 1048576 := by omega
      have hlen4 : l.length ≤ 1100000 := by omega
      have hml := marks_len 1 x.length
      have hml2 := marks_len (1 + x.length) l.length
      have q0 : (0 : Int) ≤ 1 + x.length := by omega
      have q1 : (1 : Int) + x.length ≤ 10000000 := by omega
      have q2 : ¬ (1 : Int) + x.length + l.length < 0 := by omega
      have al := ansL_len k l
      have hmb := marksB_len 1 l.length
      have hhb := heldB_marks 1 l.length
      have q3 : ¬ (1 : Int) + l.length < 0 := by omega
      have hnb : heldB [] 1 := fun j hj => by simp at hj
      cases hg2 : (isL x m l && opn x k) with
      | true =>
        refine is.go hm hΓ k_x_SecretAnswers o_x_SecretAnswers (by simp [a_x_SecretAnswers]) ?_
        simp only [a_x_SecretAnswers, h_szState, c_szState, h_toState, c_toState, h_toIntS, c_toIntS, h_s_SecretAnswers, c_s_SecretAnswers, h_SecretAnswers, c_SecretAnswers, h_eqBoolS, c_eqBoolS, h_eqState, c_eqState, h_eqIntS, c_eqIntS, h_markState, c_markState, h_markIntS, c_markIntS, h_markBoolS, c_markBoolS, h_heldBoolS, c_heldBoolS, hx, hu, hlp, hlu, hc, hk, hku, hlen, hlen2, hlen3, hlen4, hg2, hml, hml2, q0, q1, q2, q3, al, hmb, hhb, bools_len, slI_sl, slB_sl, beq_self_eq_true, Bool.not_true, Int.reduceLE, Int.reduceNeg, Int.reduceLT, bne_self_eq_false, List.zipIdx_cons, List.zipIdx_nil, ↓SP, SQ, Gam.add, stepM, callC, argC, lendO, nmBy, nmC, likeL, likeB, plainOb, offs, X, F, trP, trO, stepD, stepW, newA, SV.tr, SV.trL, fz, allP, Ob.tr, loadA, cellsA, SV.cells, binA, binI, eqOut, isSl, isPt, natOf, callee, snap, SV.refsL, SV.refs, thaw, fzAll, loA, hiA, elemOf, partsA, buildA, putCells, ↓reduceIte, reduceCtorEq, okCell, Nat.reduceAdd, Nat.reduceEqDiff, Nat.reduceSub, Nat.reduceMul, Nat.reduceLeDiff, Nat.reduceLT, Nat.reduceBEq, PV.scal, PV.scalL, SV.scal, SV.scalL, Ob.scal, PV.isCell, pure', resO]
        exact finA_val (by simp [retA, rvA, List.mapM_cons, List.mapM_nil, Option.pure_def, Option.bind_eq_bind, Option.bind_some, Option.map_some, mkE_cons, mk_nil, mkO_cons, mkO_nil, loadA, ↓reduceIte, List.take_succ_cons, List.take_zero, List.drop_zero, List.drop_succ_cons, List.length_cons, List.length_nil, Nat.reduceAdd, Nat.reduceEqDiff, Nat.reduceLeDiff, Nat.zero_add, Nat.le_refl, reduceCtorEq, SV.tr, SV.trL, nmF, rn_nil, rn_cons1, rn_cons2, List.map_cons, List.map_nil, List.all_cons, List.all_nil, plainOb, SV.refsL, SV.refs, Ob.refs, X, F, List.range_succ, List.range_zero, List.nil_append, List.cons_append, List.isEmpty_nil, decide_true, Nat.reduceLT, Bool.and_self, Bool.and_true, and_self, and_true, List.getElem?_cons_zero, List.getElem?_cons_succ, List.nodup_cons, List.nodup_nil, List.mem_cons, List.not_mem_nil, not_false_eq_true, or_false, List.append_nil, mkO, setO_mk, List.mem_singleton]) (by simp [SV.tr, SV.trL])
      | false =>
        refine is.go hm hΓ k_x_SecretAnswers o_x_SecretAnswers (by simp [a_x_SecretAnswers]) ?_
        simp only [a_x_SecretAnswers, h_szState, c_szState, h_toState, c_toState, h_toIntS, c_toIntS, h_s_SecretAnswers, c_s_SecretAnswers, h_SecretAnswers, c_SecretAnswers, h_eqBoolS, c_eqBoolS, h_eqState, c_eqState, h_eqIntS, c_eqIntS, h_markState, c_markState, h_markIntS, c_markIntS, h_markBoolS, c_markBoolS, h_heldBoolS, c_heldBoolS, hx, hu, hlp, hlu, hc, hk, hku, hlen, hlen2, hlen3, hlen4, hg2, hml, hml2, q0, q1, q2, q3, hnb, bools_len, slI_sl, slB_sl, slB_nil, Bool.false_eq_true, beq_self_eq_true, Bool.not_true, Int.reduceLE, Int.reduceNeg, Int.reduceLT, bne_self_eq_false, List.zipIdx_cons, List.zipIdx_nil, ↓SP, SQ, Gam.add, stepM, callC, argC, lendO, nmBy, nmC, likeL, likeB, plainOb, offs, X, F, trP, trO, stepD, stepW, newA, SV.tr, SV.trL, fz, allP, Ob.tr, loadA, cellsA, SV.cells, binA, binI, eqOut, isSl, isPt, natOf, callee, snap, SV.refsL, SV.refs, thaw, fzAll, loA, hiA, elemOf, partsA, buildA, putCells, ↓reduceIte, reduceCtorEq, okCell, Nat.reduceAdd, Nat.reduceEqDiff, Nat.reduceSub, Nat.reduceMul, Nat.reduceLeDiff, Nat.reduceLT, Nat.reduceBEq, PV.scal, PV.scalL, SV.scal, SV.scalL, Ob.scal, PV.isCell, pure', resO]
        exact finA_val (by simp [retA, rvA, List.mapM_cons, List.mapM_nil, Option.pure_def, Option.bind_eq_bind, Option.bind_some, Option.map_some, mkE_cons, mk_nil, mkO_cons, mkO_nil, loadA, ↓reduceIte, List.take_succ_cons, List.take_zero, List.drop_zero, List.drop_succ_cons, List.length_cons, List.length_nil, Nat.reduceAdd, Nat.reduceEqDiff, Nat.reduceLeDiff, Nat.zero_add, Nat.le_refl, reduceCtorEq, SV.tr, SV.trL, nmF, rn_nil, rn_cons1, rn_cons2, List.map_cons, List.map_nil, List.all_cons, List.all_nil, plainOb, SV.refsL, SV.refs, Ob.refs, X, F, List.range_succ, List.range_zero, List.nil_append, List.cons_append, List.isEmpty_nil, decide_true, Nat.reduceLT, Bool.and_self, Bool.and_true, and_self, and_true, List.getElem?_cons_zero, List.getElem?_cons_succ, List.nodup_cons, List.nodup_nil, List.mem_cons, List.not_mem_nil, not_false_eq_true, or_false, List.append_nil, mkO, setO_mk, List.mem_singleton]) (by simp [SV.tr, SV.trL])
def a_x_AnswerList (f_szState : FuncId) (f_toState : FuncId) (f_toIntS : FuncId) (f_toBoolS : FuncId) (f_s_AnswerList : FuncId) (f_AnswerList : FuncId) (f_eqState : FuncId) (f_eqIntS : FuncId) (f_eqBoolS : FuncId) (f_markState : FuncId) (f_markIntS : FuncId) (f_markBoolS : FuncId) (f_heldState : FuncId) : AFn := ⟨3, 
  .seq (.reg [⟨some 3, none, .w (.box 2 (.t 0))⟩,
    ⟨some 6, none, .d (.mv (.c (.bool false)))⟩])
  (.seq (.seq (.reg [⟨some 20, none, .d (.mv (.t 1))⟩,
    ⟨some 21, none, .d (.len (.t 20))⟩,
    ⟨some 22, none, .d (.bin .arith .gtr (.t 21) (.c (.int .i64 1048576)))⟩])
  (.cond (.t 22) (.seq (.reg [⟨some 6, none, .d (.mv (.c (.bool true)))⟩])
   (.ret)) (.skip)))
  (.seq (.seq (.reg [⟨some 23, none, .d (.mv (.t 2))⟩,
    ⟨some 24, none, .d (.len (.t 23))⟩,
    ⟨some 25, none, .d (.bin .arith .gtr (.t 24) (.c (.int .i64 1048576)))⟩])
  (.cond (.t 25) (.seq (.reg [⟨some 6, none, .d (.mv (.c (.bool true)))⟩])
   (.ret)) (.skip)))
  (.seq (.reg [⟨some 7, none, .d (.mv (.c (.int .i64 1048576)))⟩])
  (.seq (.reg [⟨some 26, none, .d (.load true 2 (.t 3))⟩,
    ⟨some 27, none, .d (.mv (.t 7))⟩,
    ⟨some 28, none, .d (.call (.f f_szState) [(.t 26), (.t 27)])⟩,
    ⟨some 7, none, .d (.mv (.t 28))⟩])
  (.seq (.seq (.reg [⟨some 29, none, .d (.mv (.t 7))⟩,
    ⟨some 30, none, .d (.bin .arith .lss (.t 29) (.c (.int .i64 0)))⟩])
  (.cond (.t 30) (.seq (.reg [⟨some 6, none, .d (.mv (.c (.bool true)))⟩])
   (.ret)) (.skip)))
  (.seq (.reg [⟨some 32, none, .d (.load true 2 (.t 3))⟩,
    ⟨some 33, none, .d (.call (.f f_toState) [(.t 32)])⟩,
    ⟨some 34, none, .d (.mv (.t 1))⟩,
    ⟨some 35, none, .d (.call (.f f_toIntS) [(.t 34)])⟩,
    ⟨some 36, none, .d (.mv (.t 2))⟩,
    ⟨some 37, none, .d (.call (.f f_toBoolS) [(.t 36)])⟩,
    ⟨some 38, none, .d (.call (.f f_s_AnswerList) [(.t 33), (.t 35), (.t 37)])⟩,
    ⟨some 31, none, .d (.mv (.t 38))⟩,
    ⟨some 39, none, .d (.extract (.t 31) 0)⟩,
    ⟨some 40, none, .d (.extract (.t 31) 1)⟩,
    ⟨some 8, none, .w (.alloc [.nilsl, .int .i64 0])⟩,
    ⟨none, none, .w (.store 2 (.t 8) (.t 39))⟩,
    ⟨some 9, none, .d (.mv (.t 40))⟩])
  (.seq (.reg [⟨some 41, none, .d (.load true 2 (.t 3))⟩,
    ⟨some 42, none, .w (.callL (.f f_toState) [(.t 41)] [] 1 false)⟩,
    ⟨some 10, none, .w (.alloc [.nilsl, .int .i64 0])⟩,
    ⟨none, none, .w (.store 2 (.t 10) (.t 42))⟩])
  (.seq (.reg [⟨some 43, none, .d (.mv (.t 1))⟩,
    ⟨some 44, none, .w (.callL (.f f_toIntS) [(.t 43)] [] 1 false)⟩,
    ⟨some 11, none, .d (.mv (.t 44))⟩])
  (.seq (.reg [⟨some 45, none, .d (.mv (.t 2))⟩,
    ⟨some 46, none, .w (.callL (.f f_toBoolS) [(.t 45)] [] 1 false)⟩,
    ⟨some 12, none, .d (.mv (.t 46))⟩])
  (.seq (.reg [⟨some 48, none, .d (.load true 2 (.t 10))⟩,
    ⟨some 49, none, .d (.mv (.t 11))⟩,
    ⟨some 50, none, .d (.mv (.t 12))⟩,
    ⟨some 51, none, .w (.callL (.f f_AnswerList) [(.t 48), (.t 49), (.t 50)] [] 1 false)⟩,
    ⟨some 47, none, .d (.mv (.t 51))⟩,
    ⟨some 52, none, .d (.extract (.t 47) 0)⟩,
    ⟨some 53, none, .d (.extract (.t 47) 1)⟩,
    ⟨some 13, none, .w (.alloc [.nilsl, .int .i64 0])⟩,
    ⟨none, none, .w (.store 2 (.t 13) (.t 52))⟩,
    ⟨some 14, none, .d (.mv (.t 53))⟩])
  (.seq (.seq (.reg [⟨some 54, none, .d (.load true 2 (.t 13))⟩,
    ⟨some 55, none, .d (.load true 2 (.t 8))⟩,
    ⟨some 56, none, .d (.call (.f f_eqState) [(.t 54), (.t 55)])⟩,
    ⟨some 57, none, .d (.not (.t 56))⟩,
    ⟨some 58, none, .d (.mv (.t 57))⟩,
    ⟨some 59, some (58, false), .d (.mv (.t 14))⟩,
    ⟨some 60, some (58, false), .d (.mv (.t 9))⟩,
    ⟨some 61, some (58, false), .d (.bin .bool .neq (.t 59) (.t 60))⟩,
    ⟨some 62, none, .d (.pick (.t 58) (.c (.bool true)) (.t 61))⟩])
  (.cond (.t 62) (.seq (.reg [⟨some 6, none, .d (.mv (.c (.bool false)))⟩])
   (.ret)) (.skip)))
  (.seq (.seq (.dreg [] [([], ⟨some 63, none, .d (.load true 2 (.t 10))⟩),
    ([], ⟨some 64, none, .d (.load true 2 (.t 3))⟩),
    ([], ⟨some 65, none, .d (.call (.f f_toState) [(.t 64)])⟩)] [⟨some 66, none, .d (.call (.f f_eqState) [(.t 63), (.t 65)])⟩,
    ⟨some 67, none, .d (.not (.t 66))⟩])
  (.cond (.t 67) (.seq (.reg [⟨some 6, none, .d (.mv (.c (.bool false)))⟩])
   (.ret)) (.skip)))
  (.seq (.seq (.reg [⟨some 68, none, .d (.mv (.t 11))⟩,
    ⟨some 69, none, .d (.mv (.t 1))⟩,
    ⟨some 70, none, .d (.call (.f f_toIntS) [(.t 69)])⟩,
    ⟨some 71, none, .d (.call (.f f_eqIntS) [(.t 68), (.t 70)])⟩,
    ⟨some 72, none, .d (.not (.t 71))⟩])
  (.cond (.t 72) (.seq (.reg [⟨some 6, none, .d (.mv (.c (.bool false)))⟩])
   (.ret)) (.skip)))
  (.seq (.seq (.reg [⟨some 73, none, .d (.mv (.t 12))⟩,
    ⟨some 74, none, .d (.mv (.t 2))⟩,
    ⟨some 75, none, .d (.call (.f f_toBoolS) [(.t 74)])⟩,
    ⟨some 76, none, .d (.call (.f f_eqBoolS) [(.t 73), (.t 75)])⟩,
    ⟨some 77, none, .d (.not (.t 76))⟩])
  (.cond (.t 77) (.seq (.reg [⟨some 6, none, .d (.mv (.c (.bool false)))⟩])
   (.ret)) (.skip)))
  (.seq (.reg [⟨some 15, none, .d (.mv (.c (.int .i64 1)))⟩])
  (.seq (.reg [⟨some 78, none, .d (.load true 2 (.t 10))⟩,
    ⟨some 79, none, .d (.mv (.t 15))⟩,
    ⟨some 80, none, .w (.callL (.f f_markState) [(.t 78), (.t 79)] [42] 0 false)⟩,
    ⟨some 15, none, .d (.mv (.t 80))⟩])
  (.seq (.reg [⟨some 81, none, .d (.mv (.t 11))⟩,
    ⟨some 82, none, .d (.mv (.t 15))⟩,
    ⟨some 83, none, .w (.callL (.f f_markIntS) [(.t 81), (.t 82)] [44] 0 false)⟩,
    ⟨some 15, none, .d (.mv (.t 83))⟩])
  (.seq (.reg [⟨some 84, none, .d (.mv (.t 12))⟩,
    ⟨some 85, none, .d (.mv (.t 15))⟩,
    ⟨some 86, none, .w (.callL (.f f_markBoolS) [(.t 84), (.t 85)] [46] 0 false)⟩,
    ⟨some 15, none, .d (.mv (.t 86))⟩])
  (.seq (.seq (.reg [⟨some 87, none, .d (.mv (.t 15))⟩,
    ⟨some 88, none, .d (.bin .arith .lss (.t 87) (.c (.int .i64 0)))⟩,
    ⟨some 89, none, .d (.mv (.t 88))⟩,
    ⟨some 90, some (89, false), .d (.load true 2 (.t 13))⟩,
    ⟨some 91, some (89, false), .d (.load true 2 (.t 8))⟩,
    ⟨some 92, some (89, false), .d (.call (.f f_eqState) [(.t 90), (.t 91)])⟩,
    ⟨some 93, some (89, false), .d (.not (.t 92))⟩,
    ⟨some 94, none, .d (.pick (.t 89) (.c (.bool true)) (.t 93))⟩,
    ⟨some 95, none, .d (.mv (.t 94))⟩,
    ⟨some 96, some (95, false), .d (.mv (.t 14))⟩,
    ⟨some 97, some (95, false), .d (.mv (.t 9))⟩,
    ⟨some 98, some (95, false), .d (.bin .bool .neq (.t 96) (.t 97))⟩,
    ⟨some 99, none, .d (.pick (.t 95) (.c (.bool true)) (.t 98))⟩])
  (.cond (.t 99) (.seq (.reg [⟨some 6, none, .d (.mv (.c (.bool false)))⟩])
   (.ret)) (.skip)))
  (.seq (.reg [⟨some 16, none, .d (.mv (.c (.int .i64 1)))⟩])
  (.seq (.reg [⟨some 100, none, .d (.load true 2 (.t 13))⟩,
    ⟨some 101, none, .d (.mv (.t 16))⟩,
    ⟨some 102, none, .w (.callL (.f f_markState) [(.t 100), (.t 101)] [51] 0 false)⟩,
    ⟨some 16, none, .d (.mv (.t 102))⟩])
  (.seq (.reg [⟨some 17, none, .d (.mv (.c (.int .i64 1)))⟩])
  (.seq (.reg [⟨some 103, none, .d (.load true 2 (.t 13))⟩,
    ⟨some 104, none, .d (.mv (.t 17))⟩,
    ⟨some 105, none, .d (.call (.f f_heldState) [(.t 103), (.t 104)])⟩,
    ⟨some 17, none, .d (.mv (.t 105))⟩])
  (.seq (.seq (.reg [⟨some 106, none, .d (.mv (.t 17))⟩,
    ⟨some 107, none, .d (.bin .arith .lss (.t 106) (.c (.int .i64 0)))⟩])
  (.cond (.t 107) (.seq (.reg [⟨some 6, none, .d (.mv (.c (.bool false)))⟩])
   (.ret)) (.skip)))
  (.seq (.seq (.reg [⟨some 108, none, .d (.mv (.t 17))⟩,
    ⟨some 109, none, .d (.mv (.t 16))⟩,
    ⟨some 110, none, .d (.bin .arith .neq (.t 108) (.t 109))⟩])
  (.cond (.t 110) (.seq (.reg [⟨some 6, none, .d (.mv (.c (.bool false)))⟩])
   (.ret)) (.skip)))
  (.seq (.reg [⟨some 112, none, .d (.load true 2 (.t 3))⟩,
    ⟨some 113, none, .d (.call (.f f_toState) [(.t 112)])⟩,
    ⟨some 114, none, .d (.mv (.t 1))⟩,
    ⟨some 115, none, .d (.call (.f f_toIntS) [(.t 114)])⟩,
    ⟨some 116, none, .d (.mv (.t 2))⟩,
    ⟨some 117, none, .d (.call (.f f_toBoolS) [(.t 116)])⟩,
    ⟨some 118, none, .d (.call (.f f_AnswerList) [(.t 113), (.t 115), (.t 117)])⟩,
    ⟨some 111, none, .d (.mv (.t 118))⟩,
    ⟨some 119, none, .d (.extract (.t 111) 0)⟩,
    ⟨some 120, none, .d (.extract (.t 111) 1)⟩,
    ⟨some 18, none, .w (.alloc [.nilsl, .int .i64 0])⟩,
    ⟨none, none, .w (.store 2 (.t 18) (.t 119))⟩,
    ⟨some 19, none, .d (.mv (.t 120))⟩])
  (.seq (.seq (.reg [⟨some 121, none, .d (.load true 2 (.t 18))⟩,
    ⟨some 122, none, .d (.load true 2 (.t 8))⟩,
    ⟨some 123, none, .d (.call (.f f_eqState) [(.t 121), (.t 122)])⟩,
    ⟨some 124, none, .d (.not (.t 123))⟩,
    ⟨some 125, none, .d (.mv (.t 124))⟩,
    ⟨some 126, some (125, false), .d (.mv (.t 19))⟩,
    ⟨some 127, some (125, false), .d (.mv (.t 9))⟩,
    ⟨some 128, some (125, false), .d (.bin .bool .neq (.t 126) (.t 127))⟩,
    ⟨some 129, none, .d (.pick (.t 125) (.c (.bool true)) (.t 128))⟩])
  (.cond (.t 129) (.seq (.reg [⟨some 6, none, .d (.mv (.c (.bool false)))⟩])
   (.ret)) (.skip)))
  (.seq (.reg [⟨some 17, none, .d (.mv (.c (.int .i64 1)))⟩])
  (.seq (.reg [⟨some 130, none, .d (.load true 2 (.t 13))⟩,
    ⟨some 131, none, .d (.mv (.t 17))⟩,
    ⟨some 132, none, .d (.call (.f f_heldState) [(.t 130), (.t 131)])⟩,
    ⟨some 17, none, .d (.mv (.t 132))⟩])
  (.seq (.seq (.reg [⟨some 133, none, .d (.mv (.t 17))⟩,
    ⟨some 134, none, .d (.bin .arith .lss (.t 133) (.c (.int .i64 0)))⟩])
  (.cond (.t 134) (.seq (.reg [⟨some 6, none, .d (.mv (.c (.bool false)))⟩])
   (.ret)) (.skip)))
  (.seq (.seq (.reg [⟨some 135, none, .d (.mv (.t 17))⟩,
    ⟨some 136, none, .d (.mv (.t 16))⟩,
    ⟨some 137, none, .d (.bin .arith .neq (.t 135) (.t 136))⟩])
  (.cond (.t 137) (.seq (.reg [⟨some 6, none, .d (.mv (.c (.bool false)))⟩])
   (.ret)) (.skip)))
  (.seq (.reg [⟨some 6, none, .d (.mv (.c (.bool true)))⟩])
  (.ret))))))))))))))))))))))))))))))))), [.tmp 6]⟩
def n_x_AnswerList : Nat → Option Ann := fun d => if d = 42 then some ⟨[], 1, false⟩ else if d = 44 then some ⟨[], 1, false⟩ else if d = 46 then some ⟨[], 1, false⟩ else if d = 51 then some ⟨[], 1, false⟩ else if d = 102 then some ⟨[51], 0, false⟩ else if d = 80 then some ⟨[42], 0, false⟩ else if d = 83 then some ⟨[44], 0, false⟩ else if d = 86 then some ⟨[46], 0, false⟩ else none
abbrev k_x_AnswerList : List Nat := [0, 1, 2, 3, 6, 7, 8, 9, 10, 11, 12, 13, 14, 15, 16, 17, 18, 19, 22, 25, 30, 62, 67, 72, 77, 99, 107, 110, 129, 134, 137]
abbrev o_x_AnswerList : List Nat := [3, 8, 10, 13, 18, 42, 44, 46, 51]
def c_x_AnswerList : Con := pure' fun
  | [.p (.agg [v, .int .i64 m]), .p u, .p w] => match slI v, slI u, slB w with
    | some x, some l, some b => if x.length ≤ 9223372036854775807 ∧ l.length ≤ 9223372036854775807 ∧ b.length ≤ 9223372036854775807 then some (.p (.bool true), []) else none
    | _, _, _ => none
  | _ => none
set_option maxRecDepth 100000 in
theorem s_x_AnswerList {P : Program} (hm : P.follows .mixedOrders = true) {Γ : Gam} (hΓ : GS P Γ) {n : FuncId} {f_szState : FuncId} {f_toState : FuncId} {f_toIntS : FuncId} {f_toBoolS : FuncId} {f_s_AnswerList : FuncId} {f_AnswerList : FuncId} {f_eqState : FuncId} {f_eqIntS : FuncId} {f_eqBoolS : FuncId} {f_markState : FuncId} {f_markIntS : FuncId} {f_markBoolS : FuncId} {f_heldState : FuncId} (is : Is P n (a_x_AnswerList f_szState f_toState f_toIntS f_toBoolS f_s_AnswerList f_AnswerList f_eqState f_eqIntS f_eqBoolS f_markState f_markIntS f_markBoolS f_heldState)) (h_szState : Γ f_szState = c_szState) (h_toState : Γ f_toState = c_toState) (h_toIntS : Γ f_toIntS = c_toIntS) (h_toBoolS : Γ f_toBoolS = c_toBoolS) (h_s_AnswerList : Γ f_s_AnswerList = c_s_AnswerList) (h_AnswerList : Γ f_AnswerList = c_AnswerList) (h_eqState : Γ f_eqState = c_eqState) (h_eqIntS : Γ f_eqIntS = c_eqIntS) (h_eqBoolS : Γ f_eqBoolS = c_eqBoolS) (h_markState : Γ f_markState = c_markState) (h_markIntS : Γ f_markIntS = c_markIntS) (h_markBoolS : Γ f_markBoolS = c_markBoolS) (h_heldState : Γ f_heldState = c_heldState)  : Says P n c_x_AnswerList := by
  refine Says.pure fun args r fs h => ?_
  split at h
  case h_2 => cases h
  rename_i v m u w
  split at h
  case h_2 => cases h
  rename_i x l b hx hu hw
  split at h
  case isFalse => cases h
  rename_i hc
  simp only [Option.some.injEq, Prod.mk.injEq] at h
  obtain ⟨rfl, rfl⟩ := h
  have hlp := slI_lenP hx
  have hlu := slI_len hu
  have hlw := slB_len hw
  by_cases hku : (l.length : Int) > 1048576
  · refine is.go hm hΓ k_x_AnswerList o_x_AnswerList (by simp [a_x_AnswerList]) ?_
    simp only [a_x_AnswerList, h_szState, c_szState, h_toState, c_toState, h_toIntS, c_toIntS, h_toBoolS, c_toBoolS, h_s_AnswerList, c_s_AnswerList, h_AnswerList, c_AnswerList, h_eqState, c_eqState, h_eqIntS, c_eqIntS, h_eqBoolS, c_eqBoolS, h_markState, c_markState, h_markIntS, c_markIntS, h_markBoolS, c_markBoolS, h_heldState, c_heldState, hlp, hlu, hc, hku, Int.reduceLE, Int.reduceNeg, Int.reduceLT, List.zipIdx_cons, List.zipIdx_nil, ↓SP, SQ, Gam.add, stepM, callC, argC, lendO, nmBy, nmC, likeL, likeB, plainOb, offs, X, F, trP, trO, stepD, stepW, newA, SV.tr, SV.trL, fz, allP, Ob.tr, loadA, cellsA, SV.cells, binA, binI, eqOut, isSl, isPt, natOf, callee, snap, SV.refsL, SV.refs, thaw, fzAll, loA, hiA, elemOf, partsA, buildA, putCells, ↓reduceIte, reduceCtorEq, okCell, Nat.reduceAdd, Nat.reduceEqDiff, Nat.reduceSub, Nat.reduceMul, Nat.reduceLeDiff, Nat.reduceLT, Nat.reduceBEq, PV.scal, PV.scalL, SV.scal, SV.scalL, Ob.scal, PV.isCell, pure', resO]
    exact finA_val (by simp [retA, rvA, List.mapM_cons, List.mapM_nil, Option.pure_def, Option.bind_eq_bind, Option.bind_some, Option.map_some, mkE_cons, mk_nil, mkO_cons, mkO_nil, loadA, ↓reduceIte, List.take_succ_cons, List.take_zero, List.drop_zero, List.drop_succ_cons, List.length_cons, List.length_nil, Nat.reduceAdd, Nat.reduceEqDiff, Nat.reduceLeDiff, Nat.zero_add, Nat.le_refl, reduceCtorEq, SV.tr, SV.trL, nmF, rn_nil, rn_cons1, rn_cons2, List.map_cons, List.map_nil, List.all_cons, List.all_nil, plainOb, SV.refsL, SV.refs, Ob.refs, X, F, List.range_succ, List.range_zero, List.nil_append, List.cons_append, List.isEmpty_nil, decide_true, Nat.reduceLT, Bool.and_self, Bool.and_true, and_self, and_true, List.getElem?_cons_zero, List.getElem?_cons_succ, List.nodup_cons, List.nodup_nil, List.mem_cons, List.not_mem_nil, not_false_eq_true, or_false, List.append_nil, mkO, setO_mk, List.mem_singleton]) (by simp [SV.tr, SV.trL])
  · by_cases hkw : (b.length : Int) > 1048576
    · refine is.go hm hΓ k_x_AnswerList o_x_AnswerList (by simp [a_x_AnswerList]) ?_
      simp only [a_x_AnswerList, h_szState, c_szState, h_toState, c_toState, h_toIntS, c_toIntS, h_toBoolS, c_toBoolS, h_s_AnswerList, c_s_AnswerList, h_AnswerList, c_AnswerList, h_eqState, c_eqState, h_eqIntS, c_eqIntS, h_eqBoolS, c_eqBoolS, h_markState, c_markState, h_markIntS, c_markIntS, h_markBoolS, c_markBoolS, h_heldState, c_heldState, hlp, hlu, hlw, hc, hku, hkw, Int.reduceLE, Int.reduceNeg, Int.reduceLT, List.zipIdx_cons, List.zipIdx_nil, ↓SP, SQ, Gam.add, stepM, callC, argC, lendO, nmBy, nmC, likeL, likeB, plainOb, offs, X, F, trP, trO, stepD, stepW, newA, SV.tr, SV.trL, fz, allP, Ob.tr, loadA, cellsA, SV.cells, binA, binI, eqOut, isSl, isPt, natOf, callee, snap, SV.refsL, SV.refs, thaw, fzAll, loA, hiA, elemOf, partsA, buildA, putCells, ↓reduceIte, reduceCtorEq, okCell, Nat.reduceAdd, Nat.reduceEqDiff, Nat.reduceSub, Nat.reduceMul, Nat.reduceLeDiff, Nat.reduceLT, Nat.reduceBEq, PV.scal, PV.scalL, SV.scal, SV.scalL, Ob.scal, PV.isCell, pure', resO]
      exact finA_val (by simp [retA, rvA, List.mapM_cons, List.mapM_nil, Option.pure_def, Option.bind_eq_bind, Option.bind_some, Option.map_some, mkE_cons, mk_nil, mkO_cons, mkO_nil, loadA, ↓reduceIte, List.take_succ_cons, List.take_zero, List.drop_zero, List.drop_succ_cons, List.length_cons, List.length_nil, Nat.reduceAdd, Nat.reduceEqDiff, Nat.reduceLeDiff, Nat.zero_add, Nat.le_refl, reduceCtorEq, SV.tr, SV.trL, nmF, rn_nil, rn_cons1, rn_cons2, List.map_cons, List.map_nil, List.all_cons, List.all_nil, plainOb, SV.refsL, SV.refs, Ob.refs, X, F, List.range_succ, List.range_zero, List.nil_append, List.cons_append, List.isEmpty_nil, decide_true, Nat.reduceLT, Bool.and_self, Bool.and_true, and_self, and_true, List.getElem?_cons_zero, List.getElem?_cons_succ, List.nodup_cons, List.nodup_nil, List.mem_cons, List.not_mem_nil, not_false_eq_true, or_false, List.append_nil, mkO, setO_mk, List.mem_singleton]) (by simp [SV.tr, SV.trL])
    · by_cases hk : (1048576 : Int) - (x.length : Int) < 0
      · refine is.go hm hΓ k_x_AnswerList o_x_AnswerList (by simp [a_x_AnswerList]) ?_
        simp only [a_x_AnswerList, h_szState, c_szState, h_toState, c_toState, h_toIntS, c_toIntS, h_toBoolS, c_toBoolS, h_s_AnswerList, c_s_AnswerList, h_AnswerList, c_AnswerList, h_eqState, c_eqState, h_eqIntS, c_eqIntS, h_eqBoolS, c_eqBoolS, h_markState, c_markState, h_markIntS, c_markIntS, h_markBoolS, c_markBoolS, h_heldState, c_heldState, hlp, hlu, hlw, hc, hk, hku, hkw, Int.reduceLE, Int.reduceNeg, Int.reduceLT, List.zipIdx_cons, List.zipIdx_nil, ↓SP, SQ, Gam.add, stepM, callC, argC, lendO, nmBy, nmC, likeL, likeB, plainOb, offs, X, F, trP, trO, stepD, stepW, newA, SV.tr, SV.trL, fz, allP, Ob.tr, loadA, cellsA, SV.cells, binA, binI, eqOut, isSl, isPt, natOf, callee, snap, SV.refsL, SV.refs, thaw, fzAll, loA, hiA, elemOf, partsA, buildA, putCells, ↓reduceIte, reduceCtorEq, okCell, Nat.reduceAdd, Nat.reduceEqDiff, Nat.reduceSub, Nat.reduceMul, Nat.reduceLeDiff, Nat.reduceLT, Nat.reduceBEq, PV.scal, PV.scalL, SV.scal, SV.scalL, Ob.scal, PV.isCell, pure', resO]
        exact finA_val (by simp [retA, rvA, List.mapM_cons, List.mapM_nil, Option.pure_def, Option.bind_eq_bind, Option.bind_some, Option.map_some, mkE_cons, mk_nil, mkO_cons, mkO_nil, loadA, ↓reduceIte, List.take_succ_cons, List.take_zero, List.drop_zero, List.drop_succ_cons, List.length_cons, List.length_nil, Nat.reduceAdd, Nat.reduceEqDiff, Nat.reduceLeDiff, Nat.zero_add, Nat.le_refl, reduceCtorEq, SV.tr, SV.trL, nmF, rn_nil, rn_cons1, rn_cons2, List.map_cons, List.map_nil, List.all_cons, List.all_nil, plainOb, SV.refsL, SV.refs, Ob.refs, X, F, List.range_succ, List.range_zero, List.nil_append, List.cons_append, List.isEmpty_nil, decide_true, Nat.reduceLT, Bool.and_self, Bool.and_true, and_self, and_true, List.getElem?_cons_zero, List.getElem?_cons_succ, List.nodup_cons, List.nodup_nil, List.mem_cons, List.not_mem_nil, not_false_eq_true, or_false, List.append_nil, mkO, setO_mk, List.mem_singleton]) (by simp [SV.tr, SV.trL])
      · have hlen : x.length ≤ 1048576 := by omega
        have hlen2 : x.length ≤ 1100000 := by omega
        have hlen3 : l.length ≤ 1048576 := by omega
        have hlen4 : l.length ≤ 1100000 := by omega
        have hlen5 : b.length ≤ 1048576 := by omega
        have hlen6 : b.length ≤ 1100000 := by omega
        have hml := marks_len 1 x.length
        have hml2 := marks_len (1 + x.length) l.length
        have hmb := marksB_len (1 + x.length + l.length) b.length
        have q0 : (0 : Int) ≤ 1 + x.length := by omega
        have q1 : (1 : Int) + x.length ≤ 10000000 := by omega
        have q2 : (0 : Int) ≤ 1 + x.length + l.length := by omega
        have q3 : (1 : Int) + x.length + l.length ≤ 10000000 := by omega
        have q4 : ¬ (1 : Int) + x.length + l.length + b.length < 0 := by omega
        have q5 : ¬ (1 : Int) + x.length < 0 := by omega
        have hhm := held_marks 1 x.length
        have hnb : held [] 1 := fun j hj => by simp at hj
        cases hg2 : okL x m l b with
        | true =>
          have hL : isL x m l = true := by
            simp only [okL, Bool.and_eq_true] at hg2; exact hg2.1
          have hek := (endL_ok (isSt_small2 (isL_st hL).1) l b).1
          refine is.go hm hΓ k_x_AnswerList o_x_AnswerList (by simp [a_x_AnswerList]) ?_
          simp only [a_x_AnswerList, h_szState, c_szState, h_toState, c_toState, h_toIntS, c_toIntS, h_toBoolS, c_toBoolS, h_s_AnswerList, c_s_AnswerList, h_AnswerList, c_AnswerList, h_eqState, c_eqState, h_eqIntS, c_eqIntS, h_eqBoolS, c_eqBoolS, h_markState, c_markState, h_markIntS, c_markIntS, h_markBoolS, c_markBoolS, h_heldState, c_heldState, hx, hu, hw, hlp, hlu, hlw, hc, hk, hku, hkw, hlen, hlen2, hlen3, hlen4, hlen5, hlen6, hg2, hek, hml, hml2, hmb, q0, q1, q2, q3, q4, q5, hhm, bools_len, slI_sl, slB_sl, beq_self_eq_true, Bool.not_true, Int.reduceLE, Int.reduceNeg, Int.reduceLT, bne_self_eq_false, List.zipIdx_cons, List.zipIdx_nil, ↓SP, SQ, Gam.add, stepM, callC, argC, lendO, nmBy, nmC, likeL, likeB, plainOb, offs, X, F, trP, trO, stepD, stepW, newA, SV.tr, SV.trL, fz, allP, Ob.tr, loadA, cellsA, SV.cells, binA, binI, eqOut, isSl, isPt, natOf, callee, snap, SV.refsL, SV.refs, thaw, fzAll, loA, hiA, elemOf, partsA, buildA, putCells, ↓reduceIte, reduceCtorEq, okCell, Nat.reduceAdd, Nat.reduceEqDiff, Nat.reduceSub, Nat.reduceMul, Nat.reduceLeDiff, Nat.reduceLT, Nat.reduceBEq, PV.scal, PV.scalL, SV.scal, SV.scalL, Ob.scal, PV.isCell, pure', resO]
          exact finA_val (by simp [retA, rvA, List.mapM_cons, List.mapM_nil, Option.pure_def, Option.bind_eq_bind, Option.bind_some, Option.map_some, mkE_cons, mk_nil, mkO_cons, mkO_nil, loadA, ↓reduceIte, List.take_succ_cons, List.take_zero, List.drop_zero, List.drop_succ_cons, List.length_cons, List.length_nil, Nat.reduceAdd, Nat.reduceEqDiff, Nat.reduceLeDiff, Nat.zero_add, Nat.le_refl, reduceCtorEq, SV.tr, SV.trL, nmF, rn_nil, rn_cons1, rn_cons2, List.map_cons, List.map_nil, List.all_cons, List.all_nil, plainOb, SV.refsL, SV.refs, Ob.refs, X, F, List.range_succ, List.range_zero, List.nil_append, List.cons_append, List.isEmpty_nil, decide_true, Nat.reduceLT, Bool.and_self, Bool.and_true, and_self, and_true, List.getElem?_cons_zero, List.getElem?_cons_succ, List.nodup_cons, List.nodup_nil, List.mem_cons, List.not_mem_nil, not_false_eq_true, or_false, List.append_nil, mkO, setO_mk, List.mem_singleton]) (by simp [SV.tr, SV.trL])
        | false =>
          refine is.go hm hΓ k_x_AnswerList o_x_AnswerList (by simp [a_x_AnswerList]) ?_
          simp only [a_x_AnswerList, h_szState, c_szState, h_toState, c_toState, h_toIntS, c_toIntS, h_toBoolS, c_toBoolS, h_s_AnswerList, c_s_AnswerList, h_AnswerList, c_AnswerList, h_eqState, c_eqState, h_eqIntS, c_eqIntS, h_eqBoolS, c_eqBoolS, h_markState, c_markState, h_markIntS, c_markIntS, h_markBoolS, c_markBoolS, h_heldState, c_heldState, hx, hu, hw, hlp, hlu, hlw, hc, hk, hku, hkw, hlen, hlen2, hlen3, hlen4, hlen5, hlen6, hg2, hml, hml2, hmb, q0, q1, q2, q3, q4, q5, hnb, bools_len, slI_sl, slB_sl, slI_nil, Bool.false_eq_true, beq_self_eq_true, Bool.not_true, Int.reduceLE, Int.reduceNeg, Int.reduceLT, bne_self_eq_false, List.zipIdx_cons, List.zipIdx_nil, ↓SP, SQ, Gam.add, stepM, callC, argC, lendO, nmBy, nmC, likeL, likeB, plainOb, offs, X, F, trP, trO, stepD, stepW, newA, SV.tr, SV.trL, fz, allP, Ob.tr, loadA, cellsA, SV.cells, binA, binI, eqOut, isSl, isPt, natOf, callee, snap, SV.refsL, SV.refs, thaw, fzAll, loA, hiA, elemOf, partsA, buildA, putCells, ↓reduceIte, reduceCtorEq, okCell, Nat.reduceAdd, Nat.reduceEqDiff, Nat.reduceSub, Nat.reduceMul, Nat.reduceLeDiff, Nat.reduceLT, Nat.reduceBEq, PV.scal, PV.scalL, SV.scal, SV.scalL, Ob.scal, PV.isCell, pure', resO]
          exact finA_val (by simp [retA, rvA, List.mapM_cons, List.mapM_nil, Option.pure_def, Option.bind_eq_bind, Option.bind_some, Option.map_some, mkE_cons, mk_nil, mkO_cons, mkO_nil, loadA, ↓reduceIte, List.take_succ_cons, List.take_zero, List.drop_zero, List.drop_succ_cons, List.length_cons, List.length_nil, Nat.reduceAdd, Nat.reduceEqDiff, Nat.reduceLeDiff, Nat.zero_add, Nat.le_refl, reduceCtorEq, SV.tr, SV.trL, nmF, rn_nil, rn_cons1, rn_cons2, List.map_cons, List.map_nil, List.all_cons, List.all_nil, plainOb, SV.refsL, SV.refs, Ob.refs, X, F, List.range_succ, List.range_zero, List.nil_append, List.cons_append, List.isEmpty_nil, decide_true, Nat.reduceLT, Bool.and_self, Bool.and_true, and_self, and_true, List.getElem?_cons_zero, List.getElem?_cons_succ, List.nodup_cons, List.nodup_nil, List.mem_cons, List.not_mem_nil, not_false_eq_true, or_false, List.append_nil, mkO, setO_mk, List.mem_singleton]) (by simp [SV.tr, SV.trL])
end Go.Proofs.Ytnonkjcklgihhaa.Pam
