/- A part of the proof that stands in this folder: a small machine whose steps are shown to be the steps of the model, or walks of functions by it. No condition of its own. -/
import Derived.Test.YtmncbkkpchmjhaaGaLZ
set_option linter.unusedVariables false
set_option linter.unusedSimpArgs false
namespace Go.Proofs.Ytmncbkkpchmjhaa.Pam
open Go
def a_x_OneWayYes (f_toIntS : FuncId) (f_s_OneWayYes : FuncId) (f_OneWayYes : FuncId) (f_eqIntS : FuncId) (f_markIntS : FuncId) (f_heldIntS : FuncId) : AFn := ⟨2, 
  .seq (.reg [⟨some 4, none, .d (.mv (.c (.bool false)))⟩])
  (.seq (.seq (.reg [⟨some 16, none, .d (.mv (.t 0))⟩,
    ⟨some 17, none, .d (.len (.t 16))⟩,
    ⟨some 18, none, .d (.bin .arith .gtr (.t 17) (.c (.int .i64 1048576)))⟩])
  (.cond (.t 18) (.seq (.reg [⟨some 4, none, .d (.mv (.c (.bool true)))⟩])
   (.ret)) (.skip)))
  (.seq (.seq (.reg [⟨some 19, none, .d (.mv (.t 1))⟩,
    ⟨some 20, none, .d (.len (.t 19))⟩,
    ⟨some 21, none, .d (.bin .arith .gtr (.t 20) (.c (.int .i64 1048576)))⟩])
  (.cond (.t 21) (.seq (.reg [⟨some 4, none, .d (.mv (.c (.bool true)))⟩])
   (.ret)) (.skip)))
  (.seq (.reg [⟨some 23, none, .d (.mv (.t 0))⟩,
    ⟨some 24, none, .d (.call (.f f_toIntS) [(.t 23)])⟩,
    ⟨some 25, none, .d (.mv (.t 1))⟩,
    ⟨some 26, none, .d (.call (.f f_toIntS) [(.t 25)])⟩,
    ⟨some 27, none, .d (.call (.f f_s_OneWayYes) [(.t 24), (.t 26)])⟩,
    ⟨some 22, none, .d (.mv (.t 27))⟩,
    ⟨some 28, none, .d (.extract (.t 22) 0)⟩,
    ⟨some 29, none, .d (.extract (.t 22) 1)⟩,
    ⟨some 5, none, .d (.mv (.t 28))⟩,
    ⟨some 6, none, .d (.mv (.t 29))⟩])
  (.seq (.reg [⟨some 30, none, .d (.mv (.t 0))⟩,
    ⟨some 31, none, .w (.callL (.f f_toIntS) [(.t 30)] [] 1 false)⟩,
    ⟨some 7, none, .d (.mv (.t 31))⟩])
  (.seq (.reg [⟨some 32, none, .d (.mv (.t 1))⟩,
    ⟨some 33, none, .w (.callL (.f f_toIntS) [(.t 32)] [] 1 false)⟩,
    ⟨some 8, none, .d (.mv (.t 33))⟩])
  (.seq (.reg [⟨some 35, none, .d (.mv (.t 7))⟩,
    ⟨some 36, none, .d (.mv (.t 8))⟩,
    ⟨some 37, none, .w (.callL (.f f_OneWayYes) [(.t 35), (.t 36)] [] 1 false)⟩,
    ⟨some 34, none, .d (.mv (.t 37))⟩,
    ⟨some 38, none, .d (.extract (.t 34) 0)⟩,
    ⟨some 39, none, .d (.extract (.t 34) 1)⟩,
    ⟨some 9, none, .d (.mv (.t 38))⟩,
    ⟨some 10, none, .d (.mv (.t 39))⟩])
  (.seq (.seq (.reg [⟨some 40, none, .d (.mv (.t 9))⟩,
    ⟨some 41, none, .d (.mv (.t 5))⟩,
    ⟨some 42, none, .d (.call (.f f_eqIntS) [(.t 40), (.t 41)])⟩,
    ⟨some 43, none, .d (.not (.t 42))⟩,
    ⟨some 44, none, .d (.mv (.t 43))⟩,
    ⟨some 45, some (44, false), .d (.mv (.t 10))⟩,
    ⟨some 46, some (44, false), .d (.mv (.t 6))⟩,
    ⟨some 47, some (44, false), .d (.bin .bool .neq (.t 45) (.t 46))⟩,
    ⟨some 48, none, .d (.pick (.t 44) (.c (.bool true)) (.t 47))⟩])
  (.cond (.t 48) (.seq (.reg [⟨some 4, none, .d (.mv (.c (.bool false)))⟩])
   (.ret)) (.skip)))
  (.seq (.seq (.reg [⟨some 49, none, .d (.mv (.t 7))⟩,
    ⟨some 50, none, .d (.mv (.t 0))⟩,
    ⟨some 51, none, .d (.call (.f f_toIntS) [(.t 50)])⟩,
    ⟨some 52, none, .d (.call (.f f_eqIntS) [(.t 49), (.t 51)])⟩,
    ⟨some 53, none, .d (.not (.t 52))⟩])
  (.cond (.t 53) (.seq (.reg [⟨some 4, none, .d (.mv (.c (.bool false)))⟩])
   (.ret)) (.skip)))
  (.seq (.seq (.reg [⟨some 54, none, .d (.mv (.t 8))⟩,
    ⟨some 55, none, .d (.mv (.t 1))⟩,
    ⟨some 56, none, .d (.call (.f f_toIntS) [(.t 55)])⟩,
    ⟨some 57, none, .d (.call (.f f_eqIntS) [(.t 54), (.t 56)])⟩,
    ⟨some 58, none, .d (.not (.t 57))⟩])
  (.cond (.t 58) (.seq (.reg [⟨some 4, none, .d (.mv (.c (.bool false)))⟩])
   (.ret)) (.skip)))
  (.seq (.reg [⟨some 11, none, .d (.mv (.c (.int .i64 1)))⟩])
  (.seq (.reg [⟨some 59, none, .d (.mv (.t 7))⟩,
    ⟨some 60, none, .d (.mv (.t 11))⟩,
    ⟨some 61, none, .w (.callL (.f f_markIntS) [(.t 59), (.t 60)] [31] 0 false)⟩,
    ⟨some 11, none, .d (.mv (.t 61))⟩])
  (.seq (.reg [⟨some 62, none, .d (.mv (.t 8))⟩,
    ⟨some 63, none, .d (.mv (.t 11))⟩,
    ⟨some 64, none, .w (.callL (.f f_markIntS) [(.t 62), (.t 63)] [33] 0 false)⟩,
    ⟨some 11, none, .d (.mv (.t 64))⟩])
  (.seq (.seq (.reg [⟨some 65, none, .d (.mv (.t 11))⟩,
    ⟨some 66, none, .d (.bin .arith .lss (.t 65) (.c (.int .i64 0)))⟩,
    ⟨some 67, none, .d (.mv (.t 66))⟩,
    ⟨some 68, some (67, false), .d (.mv (.t 9))⟩,
    ⟨some 69, some (67, false), .d (.mv (.t 5))⟩,
    ⟨some 70, some (67, false), .d (.call (.f f_eqIntS) [(.t 68), (.t 69)])⟩,
    ⟨some 71, some (67, false), .d (.not (.t 70))⟩,
    ⟨some 72, none, .d (.pick (.t 67) (.c (.bool true)) (.t 71))⟩,
    ⟨some 73, none, .d (.mv (.t 72))⟩,
    ⟨some 74, some (73, false), .d (.mv (.t 10))⟩,
    ⟨some 75, some (73, false), .d (.mv (.t 6))⟩,
    ⟨some 76, some (73, false), .d (.bin .bool .neq (.t 74) (.t 75))⟩,
    ⟨some 77, none, .d (.pick (.t 73) (.c (.bool true)) (.t 76))⟩])
  (.cond (.t 77) (.seq (.reg [⟨some 4, none, .d (.mv (.c (.bool false)))⟩])
   (.ret)) (.skip)))
  (.seq (.reg [⟨some 12, none, .d (.mv (.c (.int .i64 1)))⟩])
  (.seq (.reg [⟨some 78, none, .d (.mv (.t 9))⟩,
    ⟨some 79, none, .d (.mv (.t 12))⟩,
    ⟨some 80, none, .w (.callL (.f f_markIntS) [(.t 78), (.t 79)] [37] 0 false)⟩,
    ⟨some 12, none, .d (.mv (.t 80))⟩])
  (.seq (.reg [⟨some 13, none, .d (.mv (.c (.int .i64 1)))⟩])
  (.seq (.reg [⟨some 81, none, .d (.mv (.t 9))⟩,
    ⟨some 82, none, .d (.mv (.t 13))⟩,
    ⟨some 83, none, .d (.call (.f f_heldIntS) [(.t 81), (.t 82)])⟩,
    ⟨some 13, none, .d (.mv (.t 83))⟩])
  (.seq (.seq (.reg [⟨some 84, none, .d (.mv (.t 13))⟩,
    ⟨some 85, none, .d (.bin .arith .lss (.t 84) (.c (.int .i64 0)))⟩])
  (.cond (.t 85) (.seq (.reg [⟨some 4, none, .d (.mv (.c (.bool false)))⟩])
   (.ret)) (.skip)))
  (.seq (.seq (.reg [⟨some 86, none, .d (.mv (.t 13))⟩,
    ⟨some 87, none, .d (.mv (.t 12))⟩,
    ⟨some 88, none, .d (.bin .arith .neq (.t 86) (.t 87))⟩])
  (.cond (.t 88) (.seq (.reg [⟨some 4, none, .d (.mv (.c (.bool false)))⟩])
   (.ret)) (.skip)))
  (.seq (.reg [⟨some 90, none, .d (.mv (.t 0))⟩,
    ⟨some 91, none, .d (.call (.f f_toIntS) [(.t 90)])⟩,
    ⟨some 92, none, .d (.mv (.t 1))⟩,
    ⟨some 93, none, .d (.call (.f f_toIntS) [(.t 92)])⟩,
    ⟨some 94, none, .d (.call (.f f_OneWayYes) [(.t 91), (.t 93)])⟩,
    ⟨some 89, none, .d (.mv (.t 94))⟩,
    ⟨some 95, none, .d (.extract (.t 89) 0)⟩,
    ⟨some 96, none, .d (.extract (.t 89) 1)⟩,
    ⟨some 14, none, .d (.mv (.t 95))⟩,
    ⟨some 15, none, .d (.mv (.t 96))⟩])
  (.seq (.seq (.reg [⟨some 97, none, .d (.mv (.t 14))⟩,
    ⟨some 98, none, .d (.mv (.t 5))⟩,
    ⟨some 99, none, .d (.call (.f f_eqIntS) [(.t 97), (.t 98)])⟩,
    ⟨some 100, none, .d (.not (.t 99))⟩,
    ⟨some 101, none, .d (.mv (.t 100))⟩,
    ⟨some 102, some (101, false), .d (.mv (.t 15))⟩,
    ⟨some 103, some (101, false), .d (.mv (.t 6))⟩,
    ⟨some 104, some (101, false), .d (.bin .bool .neq (.t 102) (.t 103))⟩,
    ⟨some 105, none, .d (.pick (.t 101) (.c (.bool true)) (.t 104))⟩])
  (.cond (.t 105) (.seq (.reg [⟨some 4, none, .d (.mv (.c (.bool false)))⟩])
   (.ret)) (.skip)))
  (.seq (.reg [⟨some 13, none, .d (.mv (.c (.int .i64 1)))⟩])
  (.seq (.reg [⟨some 106, none, .d (.mv (.t 9))⟩,
    ⟨some 107, none, .d (.mv (.t 13))⟩,
    ⟨some 108, none, .d (.call (.f f_heldIntS) [(.t 106), (.t 107)])⟩,
    ⟨some 13, none, .d (.mv (.t 108))⟩])
  (.seq (.seq (.reg [⟨some 109, none, .d (.mv (.t 13))⟩,
    ⟨some 110, none, .d (.bin .arith .lss (.t 109) (.c (.int .i64 0)))⟩])
  (.cond (.t 110) (.seq (.reg [⟨some 4, none, .d (.mv (.c (.bool false)))⟩])
   (.ret)) (.skip)))
  (.seq (.seq (.reg [⟨some 111, none, .d (.mv (.t 13))⟩,
    ⟨some 112, none, .d (.mv (.t 12))⟩,
    ⟨some 113, none, .d (.bin .arith .neq (.t 111) (.t 112))⟩])
  (.cond (.t 113) (.seq (.reg [⟨some 4, none, .d (.mv (.c (.bool false)))⟩])
   (.ret)) (.skip)))
  (.seq (.reg [⟨some 4, none, .d (.mv (.c (.bool true)))⟩])
  (.ret))))))))))))))))))))))))))), [.tmp 4]⟩
def n_x_OneWayYes : Nat → Option Ann := fun d => if d = 31 then some ⟨[], 1, false⟩ else if d = 33 then some ⟨[], 1, false⟩ else if d = 37 then some ⟨[], 1, false⟩ else if d = 61 then some ⟨[31], 0, false⟩ else if d = 64 then some ⟨[33], 0, false⟩ else if d = 80 then some ⟨[37], 0, false⟩ else none
abbrev k_x_OneWayYes : List Nat := [0, 1, 4, 5, 6, 7, 8, 9, 10, 11, 12, 13, 14, 15, 18, 21, 48, 53, 58, 77, 85, 88, 105, 110, 113]
abbrev o_x_OneWayYes : List Nat := [31, 33, 37]
def c_x_OneWayYes : Con := pure' fun
  | [.p v, .p u] => match slI v, slI u with
    | some c, some s => if c.length ≤ 9223372036854775807 ∧ s.length ≤ 9223372036854775807 then some (.p (.bool true), []) else none
    | _, _ => none
  | _ => none
set_option maxRecDepth 100000 in
theorem s_x_OneWayYes {P : Program} (hm : P.follows .mixedOrders = true) {Γ : Gam} (hΓ : GS P Γ) {n : FuncId} {f_toIntS : FuncId} {f_s_OneWayYes : FuncId} {f_OneWayYes : FuncId} {f_eqIntS : FuncId} {f_markIntS : FuncId} {f_heldIntS : FuncId} (is : Is P n (a_x_OneWayYes f_toIntS f_s_OneWayYes f_OneWayYes f_eqIntS f_markIntS f_heldIntS)) (h_toIntS : Γ f_toIntS = c_toIntS) (h_s_OneWayYes : Γ f_s_OneWayYes = c_s_OneWayYes) (h_OneWayYes : Γ f_OneWayYes = c_OneWayYes) (h_eqIntS : Γ f_eqIntS = c_eqIntS) (h_markIntS : Γ f_markIntS = c_markIntS) (h_heldIntS : Γ f_heldIntS = c_heldIntS)  : Says P n c_x_OneWayYes := by
  refine Says.pure fun args r fs h => ?_
  split at h
  case h_2 => cases h
  rename_i v u
  split at h
  case h_2 => cases h
  rename_i c s hv hu
  split at h
  case isFalse => cases h
  rename_i hc
  simp only [Option.some.injEq, Prod.mk.injEq] at h
  obtain ⟨rfl, rfl⟩ := h
  have hlv := slI_len hv
  have hlu := slI_len hu
  by_cases hkv : (c.length : Int) > 1048576
  · refine is.go hm hΓ k_x_OneWayYes o_x_OneWayYes (by simp [a_x_OneWayYes]) ?_
    simp only [a_x_OneWayYes, h_toIntS, c_toIntS, h_s_OneWayYes, c_s_OneWayYes, h_OneWayYes, c_OneWayYes, h_eqIntS, c_eqIntS, h_markIntS, c_markIntS, h_heldIntS, c_heldIntS, hlv, hlu, hc, hkv, Int.reduceLE, Int.reduceNeg, Int.reduceLT, List.zipIdx_cons, List.zipIdx_nil, ↓SP, SQ, Gam.add, stepM, callC, argC, lendO, nmBy, nmC, likeL, likeB, plainOb, offs, X, F, trP, trO, stepD, stepW, newA, SV.tr, SV.trL, fz, allP, Ob.tr, loadA, cellsA, SV.cells, binA, binI, eqOut, isSl, isPt, natOf, callee, snap, SV.refsL, SV.refs, thaw, fzAll, loA, hiA, elemOf, partsA, buildA, putCells, ↓reduceIte, reduceCtorEq, okCell, Nat.reduceAdd, Nat.reduceEqDiff, Nat.reduceSub, Nat.reduceMul, Nat.reduceLeDiff, Nat.reduceLT, Nat.reduceBEq, PV.scal, PV.scalL, SV.scal, SV.scalL, Ob.scal, PV.isCell, pure', resO]
    exact finA_val (by simp [retA, rvA, List.mapM_cons, List.mapM_nil, Option.pure_def, Option.bind_eq_bind, Option.bind_some, Option.map_some, mkE_cons, mk_nil, mkO_cons, mkO_nil, loadA, ↓reduceIte, List.take_succ_cons, List.take_zero, List.drop_zero, List.drop_succ_cons, List.length_cons, List.length_nil, Nat.reduceAdd, Nat.reduceEqDiff, Nat.reduceLeDiff, Nat.zero_add, Nat.le_refl, reduceCtorEq, SV.tr, SV.trL, nmF, rn_nil, rn_cons1, rn_cons2, List.map_cons, List.map_nil, List.all_cons, List.all_nil, plainOb, SV.refsL, SV.refs, Ob.refs, X, F, List.range_succ, List.range_zero, List.nil_append, List.cons_append, List.isEmpty_nil, decide_true, Nat.reduceLT, Bool.and_self, Bool.and_true, and_self, and_true, List.getElem?_cons_zero, List.getElem?_cons_succ, List.nodup_cons, List.nodup_nil, List.mem_cons, List.not_mem_nil, not_false_eq_true, or_false, List.append_nil, mkO, setO_mk, List.mem_singleton]) (by simp [SV.tr, SV.trL])
  · by_cases hku : (s.length : Int) > 1048576
    · refine is.go hm hΓ k_x_OneWayYes o_x_OneWayYes (by simp [a_x_OneWayYes]) ?_
      simp only [a_x_OneWayYes, h_toIntS, c_toIntS, h_s_OneWayYes, c_s_OneWayYes, h_OneWayYes, c_OneWayYes, h_eqIntS, c_eqIntS, h_markIntS, c_markIntS, h_heldIntS, c_heldIntS, hlv, hlu, hc, hkv, hku, Int.reduceLE, Int.reduceNeg, Int.reduceLT, List.zipIdx_cons, List.zipIdx_nil, ↓SP, SQ, Gam.add, stepM, callC, argC, lendO, nmBy, nmC, likeL, likeB, plainOb, offs, X, F, trP, trO, stepD, stepW, newA, SV.tr, SV.trL, fz, allP, Ob.tr, loadA, cellsA, SV.cells, binA, binI, eqOut, isSl, isPt, natOf, callee, snap, SV.refsL, SV.refs, thaw, fzAll, loA, hiA, elemOf, partsA, buildA, putCells, ↓reduceIte, reduceCtorEq, okCell, Nat.reduceAdd, Nat.reduceEqDiff, Nat.reduceSub, Nat.reduceMul, Nat.reduceLeDiff, Nat.reduceLT, Nat.reduceBEq, PV.scal, PV.scalL, SV.scal, SV.scalL, Ob.scal, PV.isCell, pure', resO]
      exact finA_val (by simp [retA, rvA, List.mapM_cons, List.mapM_nil, Option.pure_def, Option.bind_eq_bind, Option.bind_some, Option.map_some, mkE_cons, mk_nil, mkO_cons, mkO_nil, loadA, ↓reduceIte, List.take_succ_cons, List.take_zero, List.drop_zero, List.drop_succ_cons, List.length_cons, List.length_nil, Nat.reduceAdd, Nat.reduceEqDiff, Nat.reduceLeDiff, Nat.zero_add, Nat.le_refl, reduceCtorEq, SV.tr, SV.trL, nmF, rn_nil, rn_cons1, rn_cons2, List.map_cons, List.map_nil, List.all_cons, List.all_nil, plainOb, SV.refsL, SV.refs, Ob.refs, X, F, List.range_succ, List.range_zero, List.nil_append, List.cons_append, List.isEmpty_nil, decide_true, Nat.reduceLT, Bool.and_self, Bool.and_true, and_self, and_true, List.getElem?_cons_zero, List.getElem?_cons_succ, List.nodup_cons, List.nodup_nil, List.mem_cons, List.not_mem_nil, not_false_eq_true, or_false, List.append_nil, mkO, setO_mk, List.mem_singleton]) (by simp [SV.tr, SV.trL])
    · have q1 : c.length ≤ 1048576 := by omega
      have q2 : c.length ≤ 1100000 := by omega
      have q3 : s.length ≤ 1048576 := by omega
      have q4 : s.length ≤ 1100000 := by omega
      have hml := marks_len 1 c.length
      have hml2 := marks_len (1 + c.length) s.length
      have q5 : (0 : Int) ≤ 1 + c.length := by omega
      have q6 : (1 : Int) + c.length ≤ 10000000 := by omega
      have q7 : ¬ (1 : Int) + c.length + s.length < 0 := by omega
      have hnl := noL_len c s
      have hm1 := marks_len 1 s.length
      have hhm := held_marks 1 s.length
      have q8 : ¬ (1 : Int) + s.length < 0 := by omega
      have hnb : held [] 1 := fun j hj => by simp at hj
      cases hg : (okC c && okSp c s) with
      | true =>
        refine is.go hm hΓ k_x_OneWayYes o_x_OneWayYes (by simp [a_x_OneWayYes]) ?_
        simp only [a_x_OneWayYes, h_toIntS, c_toIntS, h_s_OneWayYes, c_s_OneWayYes, h_OneWayYes, c_OneWayYes, h_eqIntS, c_eqIntS, h_markIntS, c_markIntS, h_heldIntS, c_heldIntS, hv, hu, hlv, hlu, hc, hkv, hku, q1, q2, q3, q4, hg, hml, hml2, q5, q6, q7, hnl, hm1, hhm, q8, ints_len, slI_sl, beq_self_eq_true, Bool.not_true, Int.reduceLE, Int.reduceNeg, Int.reduceLT, bne_self_eq_false, List.zipIdx_cons, List.zipIdx_nil, ↓SP, SQ, Gam.add, stepM, callC, argC, lendO, nmBy, nmC, likeL, likeB, plainOb, offs, X, F, trP, trO, stepD, stepW, newA, SV.tr, SV.trL, fz, allP, Ob.tr, loadA, cellsA, SV.cells, binA, binI, eqOut, isSl, isPt, natOf, callee, snap, SV.refsL, SV.refs, thaw, fzAll, loA, hiA, elemOf, partsA, buildA, putCells, ↓reduceIte, reduceCtorEq, okCell, Nat.reduceAdd, Nat.reduceEqDiff, Nat.reduceSub, Nat.reduceMul, Nat.reduceLeDiff, Nat.reduceLT, Nat.reduceBEq, PV.scal, PV.scalL, SV.scal, SV.scalL, Ob.scal, PV.isCell, pure', resO]
        exact finA_val (by simp [retA, rvA, List.mapM_cons, List.mapM_nil, Option.pure_def, Option.bind_eq_bind, Option.bind_some, Option.map_some, mkE_cons, mk_nil, mkO_cons, mkO_nil, loadA, ↓reduceIte, List.take_succ_cons, List.take_zero, List.drop_zero, List.drop_succ_cons, List.length_cons, List.length_nil, Nat.reduceAdd, Nat.reduceEqDiff, Nat.reduceLeDiff, Nat.zero_add, Nat.le_refl, reduceCtorEq, SV.tr, SV.trL, nmF, rn_nil, rn_cons1, rn_cons2, List.map_cons, List.map_nil, List.all_cons, List.all_nil, plainOb, SV.refsL, SV.refs, Ob.refs, X, F, List.range_succ, List.range_zero, List.nil_append, List.cons_append, List.isEmpty_nil, decide_true, Nat.reduceLT, Bool.and_self, Bool.and_true, and_self, and_true, List.getElem?_cons_zero, List.getElem?_cons_succ, List.nodup_cons, List.nodup_nil, List.mem_cons, List.not_mem_nil, not_false_eq_true, or_false, List.append_nil, mkO, setO_mk, List.mem_singleton]) (by simp [SV.tr, SV.trL])
      | false =>
        refine is.go hm hΓ k_x_OneWayYes o_x_OneWayYes (by simp [a_x_OneWayYes]) ?_
        simp only [a_x_OneWayYes, h_toIntS, c_toIntS, h_s_OneWayYes, c_s_OneWayYes, h_OneWayYes, c_OneWayYes, h_eqIntS, c_eqIntS, h_markIntS, c_markIntS, h_heldIntS, c_heldIntS, hv, hu, hlv, hlu, hc, hkv, hku, q1, q2, q3, q4, hg, hml, hml2, q5, q6, q7, hnb, ints_len, slI_sl, slI_nil, Bool.false_eq_true, beq_self_eq_true, Bool.not_true, Int.reduceLE, Int.reduceNeg, Int.reduceLT, bne_self_eq_false, List.zipIdx_cons, List.zipIdx_nil, ↓SP, SQ, Gam.add, stepM, callC, argC, lendO, nmBy, nmC, likeL, likeB, plainOb, offs, X, F, trP, trO, stepD, stepW, newA, SV.tr, SV.trL, fz, allP, Ob.tr, loadA, cellsA, SV.cells, binA, binI, eqOut, isSl, isPt, natOf, callee, snap, SV.refsL, SV.refs, thaw, fzAll, loA, hiA, elemOf, partsA, buildA, putCells, ↓reduceIte, reduceCtorEq, okCell, Nat.reduceAdd, Nat.reduceEqDiff, Nat.reduceSub, Nat.reduceMul, Nat.reduceLeDiff, Nat.reduceLT, Nat.reduceBEq, PV.scal, PV.scalL, SV.scal, SV.scalL, Ob.scal, PV.isCell, pure', resO]
        exact finA_val (by simp [retA, rvA, List.mapM_cons, List.mapM_nil, Option.pure_def, Option.bind_eq_bind, Option.bind_some, Option.map_some, mkE_cons, mk_nil, mkO_cons, mkO_nil, loadA, ↓reduceIte, List.take_succ_cons, List.take_zero, List.drop_zero, List.drop_succ_cons, List.length_cons, List.length_nil, Nat.reduceAdd, Nat.reduceEqDiff, Nat.reduceLeDiff, Nat.zero_add, Nat.le_refl, reduceCtorEq, SV.tr, SV.trL, nmF, rn_nil, rn_cons1, rn_cons2, List.map_cons, List.map_nil, List.all_cons, List.all_nil, plainOb, SV.refsL, SV.refs, Ob.refs, X, F, List.range_succ, List.range_zero, List.nil_append, List.cons_append, List.isEmpty_nil, decide_true, Nat.reduceLT, Bool.and_self, Bool.and_true, and_self, and_true, List.getElem?_cons_zero, List.getElem?_cons_succ, List.nodup_cons, List.nodup_nil, List.mem_cons, List.not_mem_nil, not_false_eq_true, or_false, List.append_nil, mkO, setO_mk, List.mem_singleton]) (by simp [SV.tr, SV.trL])
def a_x_OneWayNo (f_toIntS : FuncId) (f_s_OneWayNo : FuncId) (f_OneWayNo : FuncId) (f_eqIntS : FuncId) (f_markIntS : FuncId) (f_heldIntS : FuncId) : AFn := ⟨2, 
  .seq (.reg [⟨some 4, none, .d (.mv (.c (.bool false)))⟩])
  (.seq (.seq (.reg [⟨some 16, none, .d (.mv (.t 0))⟩,
    ⟨some 17, none, .d (.len (.t 16))⟩,
    ⟨some 18, none, .d (.bin .arith .gtr (.t 17) (.c (.int .i64 1048576)))⟩])
  (.cond (.t 18) (.seq (.reg [⟨some 4, none, .d (.mv (.c (.bool true)))⟩])
   (.ret)) (.skip)))
  (.seq (.seq (.reg [⟨some 19, none, .d (.mv (.t 1))⟩,
    ⟨some 20, none, .d (.len (.t 19))⟩,
    ⟨some 21, none, .d (.bin .arith .gtr (.t 20) (.c (.int .i64 1048576)))⟩])
  (.cond (.t 21) (.seq (.reg [⟨some 4, none, .d (.mv (.c (.bool true)))⟩])
   (.ret)) (.skip)))
  (.seq (.reg [⟨some 23, none, .d (.mv (.t 0))⟩,
    ⟨some 24, none, .d (.call (.f f_toIntS) [(.t 23)])⟩,
    ⟨some 25, none, .d (.mv (.t 1))⟩,
    ⟨some 26, none, .d (.call (.f f_toIntS) [(.t 25)])⟩,
    ⟨some 27, none, .d (.call (.f f_s_OneWayNo) [(.t 24), (.t 26)])⟩,
    ⟨some 22, none, .d (.mv (.t 27))⟩,
    ⟨some 28, none, .d (.extract (.t 22) 0)⟩,
    ⟨some 29, none, .d (.extract (.t 22) 1)⟩,
    ⟨some 5, none, .d (.mv (.t 28))⟩,
    ⟨some 6, none, .d (.mv (.t 29))⟩])
  (.seq (.reg [⟨some 30, none, .d (.mv (.t 0))⟩,
    ⟨some 31, none, .w (.callL (.f f_toIntS) [(.t 30)] [] 1 false)⟩,
    ⟨some 7, none, .d (.mv (.t 31))⟩])
  (.seq (.reg [⟨some 32, none, .d (.mv (.t 1))⟩,
    ⟨some 33, none, .w (.callL (.f f_toIntS) [(.t 32)] [] 1 false)⟩,
    ⟨some 8, none, .d (.mv (.t 33))⟩])
  (.seq (.reg [⟨some 35, none, .d (.mv (.t 7))⟩,
    ⟨some 36, none, .d (.mv (.t 8))⟩,
    ⟨some 37, none, .w (.callL (.f f_OneWayNo) [(.t 35), (.t 36)] [] 1 false)⟩,
    ⟨some 34, none, .d (.mv (.t 37))⟩,
    ⟨some 38, none, .d (.extract (.t 34) 0)⟩,
    ⟨some 39, none, .d (.extract (.t 34) 1)⟩,
    ⟨some 9, none, .d (.mv (.t 38))⟩,
    ⟨some 10, none, .d (.mv (.t 39))⟩])
  (.seq (.seq (.reg [⟨some 40, none, .d (.mv (.t 9))⟩,
    ⟨some 41, none, .d (.mv (.t 5))⟩,
    ⟨some 42, none, .d (.call (.f f_eqIntS) [(.t 40), (.t 41)])⟩,
    ⟨some 43, none, .d (.not (.t 42))⟩,
    ⟨some 44, none, .d (.mv (.t 43))⟩,
    ⟨some 45, some (44, false), .d (.mv (.t 10))⟩,
    ⟨some 46, some (44, false), .d (.mv (.t 6))⟩,
    ⟨some 47, some (44, false), .d (.bin .bool .neq (.t 45) (.t 46))⟩,
    ⟨some 48, none, .d (.pick (.t 44) (.c (.bool true)) (.t 47))⟩])
  (.cond (.t 48) (.seq (.reg [⟨some 4, none, .d (.mv (.c (.bool false)))⟩])
   (.ret)) (.skip)))
  (.seq (.seq (.reg [⟨some 49, none, .d (.mv (.t 7))⟩,
    ⟨some 50, none, .d (.mv (.t 0))⟩,
    ⟨some 51, none, .d (.call (.f f_toIntS) [(.t 50)])⟩,
    ⟨some 52, none, .d (.call (.f f_eqIntS) [(.t 49), (.t 51)])⟩,
    ⟨some 53, none, .d (.not (.t 52))⟩])
  (.cond (.t 53) (.seq (.reg [⟨some 4, none, .d (.mv (.c (.bool false)))⟩])
   (.ret)) (.skip)))
  (.seq (.seq (.reg [⟨some 54, none, .d (.mv (.t 8))⟩,
    ⟨some 55, none, .d (.mv (.t 1))⟩,
    ⟨some 56, none, .d (.call (.f f_toIntS) [(.t 55)])⟩,
    ⟨some 57, none, .d (.call (.f f_eqIntS) [(.t 54), (.t 56)])⟩,
    ⟨some 58, none, .d (.not (.t 57))⟩])
  (.cond (.t 58) (.seq (.reg [⟨some 4, none, .d (.mv (.c (.bool false)))⟩])
   (.ret)) (.skip)))
  (.seq (.reg [⟨some 11, none, .d (.mv (.c (.int .i64 1)))⟩])
  (.seq (.reg [⟨some 59, none, .d (.mv (.t 7))⟩,
    ⟨some 60, none, .d (.mv (.t 11))⟩,
    ⟨some 61, none, .w (.callL (.f f_markIntS) [(.t 59), (.t 60)] [31] 0 false)⟩,
    ⟨some 11, none, .d (.mv (.t 61))⟩])
  (.seq (.reg [⟨some 62, none, .d (.mv (.t 8))⟩,
    ⟨some 63, none, .d (.mv (.t 11))⟩,
    ⟨some 64, none, .w (.callL (.f f_markIntS) [(.t 62), (.t 63)] [33] 0 false)⟩,
    ⟨some 11, none, .d (.mv (.t 64))⟩])
  (.seq (.seq (.reg [⟨some 65, none, .d (.mv (.t 11))⟩,
    ⟨some 66, none, .d (.bin .arith .lss (.t 65) (.c (.int .i64 0)))⟩,
    ⟨some 67, none, .d (.mv (.t 66))⟩,
    ⟨some 68, some (67, false), .d (.mv (.t 9))⟩,
    ⟨some 69, some (67, false), .d (.mv (.t 5))⟩,
    ⟨some 70, some (67, false), .d (.call (.f f_eqIntS) [(.t 68), (.t 69)])⟩,
    ⟨some 71, some (67, false), .d (.not (.t 70))⟩,
    ⟨some 72, none, .d (.pick (.t 67) (.c (.bool true)) (.t 71))⟩,
    ⟨some 73, none, .d (.mv (.t 72))⟩,
    ⟨some 74, some (73, false), .d (.mv (.t 10))⟩,
    ⟨some 75, some (73, false), .d (.mv (.t 6))⟩,
    ⟨some 76, some (73, false), .d (.bin .bool .neq (.t 74) (.t 75))⟩,
    ⟨some 77, none, .d (.pick (.t 73) (.c (.bool true)) (.t 76))⟩])
  (.cond (.t 77) (.seq (.reg [⟨some 4, none, .d (.mv (.c (.bool false)))⟩])
   (.ret)) (.skip)))
  (.seq (.reg [⟨some 12, none, .d (.mv (.c (.int .i64 1)))⟩])
  (.seq (.reg [⟨some 78, none, .d (.mv (.t 9))⟩,
    ⟨some 79, none, .d (.mv (.t 12))⟩,
    ⟨some 80, none, .w (.callL (.f f_markIntS) [(.t 78), (.t 79)] [37] 0 false)⟩,
    ⟨some 12, none, .d (.mv (.t 80))⟩])
  (.seq (.reg [⟨some 13, none, .d (.mv (.c (.int .i64 1)))⟩])
  (.seq (.reg [⟨some 81, none, .d (.mv (.t 9))⟩,
    ⟨some 82, none, .d (.mv (.t 13))⟩,
    ⟨some 83, none, .d (.call (.f f_heldIntS) [(.t 81), (.t 82)])⟩,
    ⟨some 13, none, .d (.mv (.t 83))⟩])
  (.seq (.seq (.reg [⟨some 84, none, .d (.mv (.t 13))⟩,
    ⟨some 85, none, .d (.bin .arith .lss (.t 84) (.c (.int .i64 0)))⟩])
  (.cond (.t 85) (.seq (.reg [⟨some 4, none, .d (.mv (.c (.bool false)))⟩])
   (.ret)) (.skip)))
  (.seq (.seq (.reg [⟨some 86, none, .d (.mv (.t 13))⟩,
    ⟨some 87, none, .d (.mv (.t 12))⟩,
    ⟨some 88, none, .d (.bin .arith .neq (.t 86) (.t 87))⟩])
  (.cond (.t 88) (.seq (.reg [⟨some 4, none, .d (.mv (.c (.bool false)))⟩])
   (.ret)) (.skip)))
  (.seq (.reg [⟨some 90, none, .d (.mv (.t 0))⟩,
    ⟨some 91, none, .d (.call (.f f_toIntS) [(.t 90)])⟩,
    ⟨some 92, none, .d (.mv (.t 1))⟩,
    ⟨some 93, none, .d (.call (.f f_toIntS) [(.t 92)])⟩,
    ⟨some 94, none, .d (.call (.f f_OneWayNo) [(.t 91), (.t 93)])⟩,
    ⟨some 89, none, .d (.mv (.t 94))⟩,
    ⟨some 95, none, .d (.extract (.t 89) 0)⟩,
    ⟨some 96, none, .d (.extract (.t 89) 1)⟩,
    ⟨some 14, none, .d (.mv (.t 95))⟩,
    ⟨some 15, none, .d (.mv (.t 96))⟩])
  (.seq (.seq (.reg [⟨some 97, none, .d (.mv (.t 14))⟩,
    ⟨some 98, none, .d (.mv (.t 5))⟩,
    ⟨some 99, none, .d (.call (.f f_eqIntS) [(.t 97), (.t 98)])⟩,
    ⟨some 100, none, .d (.not (.t 99))⟩,
    ⟨some 101, none, .d (.mv (.t 100))⟩,
    ⟨some 102, some (101, false), .d (.mv (.t 15))⟩,
    ⟨some 103, some (101, false), .d (.mv (.t 6))⟩,
    ⟨some 104, some (101, false), .d (.bin .bool .neq (.t 102) (.t 103))⟩,
    ⟨some 105, none, .d (.pick (.t 101) (.c (.bool true)) (.t 104))⟩])
  (.cond (.t 105) (.seq (.reg [⟨some 4, none, .d (.mv (.c (.bool false)))⟩])
   (.ret)) (.skip)))
  (.seq (.reg [⟨some 13, none, .d (.mv (.c (.int .i64 1)))⟩])
  (.seq (.reg [⟨some 106, none, .d (.mv (.t 9))⟩,
    ⟨some 107, none, .d (.mv (.t 13))⟩,
    ⟨some 108, none, .d (.call (.f f_heldIntS) [(.t 106), (.t 107)])⟩,
    ⟨some 13, none, .d (.mv (.t 108))⟩])
  (.seq (.seq (.reg [⟨some 109, none, .d (.mv (.t 13))⟩,
    ⟨some 110, none, .d (.bin .arith .lss (.t 109) (.c (.int .i64 0)))⟩])
  (.cond (.t 110) (.seq (.reg [⟨some 4, none, .d (.mv (.c (.bool false)))⟩])
   (.ret)) (.skip)))
  (.seq (.seq (.reg [⟨some 111, none, .d (.mv (.t 13))⟩,
    ⟨some 112, none, .d (.mv (.t 12))⟩,
    ⟨some 113, none, .d (.bin .arith .neq (.t 111) (.t 112))⟩])
  (.cond (.t 113) (.seq (.reg [⟨some 4, none, .d (.mv (.c (.bool false)))⟩])
   (.ret)) (.skip)))
  (.seq (.reg [⟨some 4, none, .d (.mv (.c (.bool true)))⟩])
  (.ret))))))))))))))))))))))))))), [.tmp 4]⟩
def n_x_OneWayNo : Nat → Option Ann := fun d => if d = 31 then some ⟨[], 1, false⟩ else if d = 33 then some ⟨[], 1, false⟩ else if d = 37 then some ⟨[], 1, false⟩ else if d = 61 then some ⟨[31], 0, false⟩ else if d = 64 then some ⟨[33], 0, false⟩ else if d = 80 then some ⟨[37], 0, false⟩ else none
abbrev k_x_OneWayNo : List Nat := [0, 1, 4, 5, 6, 7, 8, 9, 10, 11, 12, 13, 14, 15, 18, 21, 48, 53, 58, 77, 85, 88, 105, 110, 113]
abbrev o_x_OneWayNo : List Nat := [31, 33, 37]
def c_x_OneWayNo : Con := pure' fun
  | [.p v, .p u] => match slI v, slI u with
    | some c, some s => if c.length ≤ 9223372036854775807 ∧ s.length ≤ 9223372036854775807 then some (.p (.bool true), []) else none
    | _, _ => none
  | _ => none
set_option maxRecDepth 100000 in
theorem s_x_OneWayNo {P : Program} (hm : P.follows .mixedOrders = true) {Γ : Gam} (hΓ : GS P Γ) {n : FuncId} {f_toIntS : FuncId} {f_s_OneWayNo : FuncId} {f_OneWayNo : FuncId} {f_eqIntS : FuncId} {f_markIntS : FuncId} {f_heldIntS : FuncId} (is : Is P n (a_x_OneWayNo f_toIntS f_s_OneWayNo f_OneWayNo f_eqIntS f_markIntS f_heldIntS)) (h_toIntS : Γ f_toIntS = c_toIntS) (h_s_OneWayNo : Γ f_s_OneWayNo = c_s_OneWayNo) (h_OneWayNo : Γ f_OneWayNo = c_OneWayNo) (h_eqIntS : Γ f_eqIntS = c_eqIntS) (h_markIntS : Γ f_markIntS = c_markIntS) (h_heldIntS : Γ f_heldIntS = c_heldIntS)  : Says P n c_x_OneWayNo := by
  refine Says.pure fun args r fs h => ?_
  split at h
  case h_2 => cases h
  rename_i v u
  split at h
  case h_2 => cases h
  rename_i c s hv hu
  split at h
  case isFalse => cases h
  rename_i hc
  simp only [Option.some.injEq, Prod.mk.injEq] at h
  obtain ⟨rfl, rfl⟩ := h
  have hlv := slI_len hv
  have hlu := slI_len hu
  by_cases hkv : (c.length : Int) > 1048576
  · refine is.go hm hΓ k_x_OneWayNo o_x_OneWayNo (by simp [a_x_OneWayNo]) ?_
    simp only [a_x_OneWayNo, h_toIntS, c_toIntS, h_s_OneWayNo, c_s_OneWayNo, h_OneWayNo, c_OneWayNo, h_eqIntS, c_eqIntS, h_markIntS, c_markIntS, h_heldIntS, c_heldIntS, hlv, hlu, hc, hkv, Int.reduceLE, Int.reduceNeg, Int.reduceLT, List.zipIdx_cons, List.zipIdx_nil, ↓SP, SQ, Gam.add, stepM, callC, argC, lendO, nmBy, nmC, likeL, likeB, plainOb, offs, X, F, trP, trO, stepD, stepW, newA, SV.tr, SV.trL, fz, allP, Ob.tr, loadA, cellsA, SV.cells, binA, binI, eqOut, isSl, isPt, natOf, callee, snap, SV.refsL, SV.refs, thaw, fzAll, loA, hiA, elemOf, partsA, buildA, putCells, ↓reduceIte, reduceCtorEq, okCell, Nat.reduceAdd, Nat.reduceEqDiff, Nat.reduceSub, Nat.reduceMul, Nat.reduceLeDiff, Nat.reduceLT, Nat.reduceBEq, PV.scal, PV.scalL, SV.scal, SV.scalL, Ob.scal, PV.isCell, pure', resO]
    exact finA_val (by simp [retA, rvA, List.mapM_cons, List.mapM_nil, Option.pure_def, Option.bind_eq_bind, Option.bind_some, Option.map_some, mkE_cons, mk_nil, mkO_cons, mkO_nil, loadA, ↓reduceIte, List.take_succ_cons, List.take_zero, List.drop_zero, List.drop_succ_cons, List.length_cons, List.length_nil, Nat.reduceAdd, Nat.reduceEqDiff, Nat.reduceLeDiff, Nat.zero_add, Nat.le_refl, reduceCtorEq, SV.tr, SV.trL, nmF, rn_nil, rn_cons1, rn_cons2, List.map_cons, List.map_nil, List.all_cons, List.all_nil, plainOb, SV.refsL, SV.refs, Ob.refs, X, F, List.range_succ, List.range_zero, List.nil_append, List.cons_append, List.isEmpty_nil, decide_true, Nat.reduceLT, Bool.and_self, Bool.and_true, and_self, and_true, List.getElem?_cons_zero, List.getElem?_cons_succ, List.nodup_cons, List.nodup_nil, List.mem_cons, List.not_mem_nil, not_false_eq_true, or_false, List.append_nil, mkO, setO_mk, List.mem_singleton]) (by simp [SV.tr, SV.trL])
  · by_cases hku : (s.length : Int) > 1048576
    · refine is.go hm hΓ k_x_OneWayNo o_x_OneWayNo (by simp [a_x_OneWayNo]) ?_
      simp only [a_x_OneWayNo, h_toIntS, c_toIntS, h_s_OneWayNo, c_s_OneWayNo, h_OneWayNo, c_OneWayNo, h_eqIntS, c_eqIntS, h_markIntS, c_markIntS, h_heldIntS, c_heldIntS, hlv, hlu, hc, hkv, hku, Int.reduceLE, Int.reduceNeg, Int.reduceLT, List.zipIdx_cons, List.zipIdx_nil, ↓SP, SQ, Gam.add, stepM, callC, argC, lendO, nmBy, nmC, likeL, likeB, plainOb, offs, X, F, trP, trO, stepD, stepW, newA, SV.tr, SV.trL, fz, allP, Ob.tr, loadA, cellsA, SV.cells, binA, binI, eqOut, isSl, isPt, natOf, callee, snap, SV.refsL, SV.refs, thaw, fzAll, loA, hiA, elemOf, partsA, buildA, putCells, ↓reduceIte, reduceCtorEq, okCell, Nat.reduceAdd, Nat.reduceEqDiff, Nat.reduceSub, Nat.reduceMul, Nat.reduceLeDiff, Nat.reduceLT, Nat.reduceBEq, PV.scal, PV.scalL, SV.scal, SV.scalL, Ob.scal, PV.isCell, pure', resO]
      exact finA_val (by simp [retA, rvA, List.mapM_cons, List.mapM_nil, Option.pure_def, Option.bind_eq_bind, Option.bind_some, Option.map_some, mkE_cons, mk_nil, mkO_cons, mkO_nil, loadA, ↓reduceIte, List.take_succ_cons, List.take_zero, List.drop_zero, List.drop_succ_cons, List.length_cons, List.length_nil, Nat.reduceAdd, Nat.reduceEqDiff, Nat.reduceLeDiff, Nat.zero_add, Nat.le_refl, reduceCtorEq, SV.tr, SV.trL, nmF, rn_nil, rn_cons1, rn_cons2, List.map_cons, List.map_nil, List.all_cons, List.all_nil, plainOb, SV.refsL, SV.refs, Ob.refs, X, F, List.range_succ, List.range_zero, List.nil_append, List.cons_append, List.isEmpty_nil, decide_true, Nat.reduceLT, Bool.and_self, Bool.and_true, and_self, and_true, List.getElem?_cons_zero, List.getElem?_cons_succ, List.nodup_cons, List.nodup_nil, List.mem_cons, List.not_mem_nil, not_false_eq_true, or_false, List.append_nil, mkO, setO_mk, List.mem_singleton]) (by simp [SV.tr, SV.trL])
    · have q1 : c.length ≤ 1048576 := by omega
      have q2 : c.length ≤ 1100000 := by omega
      have q3 : s.length ≤ 1048576 := by omega
      have q4 : s.length ≤ 1100000 := by omega
      have hml := marks_len 1 c.length
      have hml2 := marks_len (1 + c.length) s.length
      have q5 : (0 : Int) ≤ 1 + c.length := by omega
      have q6 : (1 : Int) + c.length ≤ 10000000 := by omega
      have q7 : ¬ (1 : Int) + c.length + s.length < 0 := by omega
      have hnl := noL_len c s
      have hm1 := marks_len 1 s.length
      have hhm := held_marks 1 s.length
      have q8 : ¬ (1 : Int) + s.length < 0 := by omega
      have hnb : held [] 1 := fun j hj => by simp at hj
      cases hg : (okC c && okSp c s) with
      | true =>
        refine is.go hm hΓ k_x_OneWayNo o_x_OneWayNo (by simp [a_x_OneWayNo]) ?_
        simp only [a_x_OneWayNo, h_toIntS, c_toIntS, h_s_OneWayNo, c_s_OneWayNo, h_OneWayNo, c_OneWayNo, h_eqIntS, c_eqIntS, h_markIntS, c_markIntS, h_heldIntS, c_heldIntS, hv, hu, hlv, hlu, hc, hkv, hku, q1, q2, q3, q4, hg, hml, hml2, q5, q6, q7, hnl, hm1, hhm, q8, ints_len, slI_sl, beq_self_eq_true, Bool.not_true, Int.reduceLE, Int.reduceNeg, Int.reduceLT, bne_self_eq_false, List.zipIdx_cons, List.zipIdx_nil, ↓SP, SQ, Gam.add, stepM, callC, argC, lendO, nmBy, nmC, likeL, likeB, plainOb, offs, X, F, trP, trO, stepD, stepW, newA, SV.tr, SV.trL, fz, allP, Ob.tr, loadA, cellsA, SV.cells, binA, binI, eqOut, isSl, isPt, natOf, callee, snap, SV.refsL, SV.refs, thaw, fzAll, loA, hiA, elemOf, partsA, buildA, putCells, ↓reduceIte, reduceCtorEq, okCell, Nat.reduceAdd, Nat.reduceEqDiff, Nat.reduceSub, Nat.reduceMul, Nat.reduceLeDiff, Nat.reduceLT, Nat.reduceBEq, PV.scal, PV.scalL, SV.scal, SV.scalL, Ob.scal, PV.isCell, pure', resO]
        exact finA_val (by simp [retA, rvA, List.mapM_cons, List.mapM_nil, Option.pure_def, Option.bind_eq_bind, Option.bind_some, Option.map_some, mkE_cons, mk_nil, mkO_cons, mkO_nil, loadA, ↓reduceIte, List.take_succ_cons, List.take_zero, List.drop_zero, List.drop_succ_cons, List.length_cons, List.length_nil, Nat.reduceAdd, Nat.reduceEqDiff, Nat.reduceLeDiff, Nat.zero_add, Nat.le_refl, reduceCtorEq, SV.tr, SV.trL, nmF, rn_nil, rn_cons1, rn_cons2, List.map_cons, List.map_nil, List.all_cons, List.all_nil, plainOb, SV.refsL, SV.refs, Ob.refs, X, F, List.range_succ, List.range_zero, List.nil_append, List.cons_append, List.isEmpty_nil, decide_true, Nat.reduceLT, Bool.and_self, Bool.and_true, and_self, and_true, List.getElem?_cons_zero, List.getElem?_cons_succ, List.nodup_cons, List.nodup_nil, List.mem_cons, List.not_mem_nil, not_false_eq_true, or_false, List.append_nil, mkO, setO_mk, List.mem_singleton]) (by simp [SV.tr, SV.trL])
      | false =>
        refine is.go hm hΓ k_x_OneWayNo o_x_OneWayNo (by simp [a_x_OneWayNo]) ?_
        simp only [a_x_OneWayNo, h_toIntS, c_toIntS, h_s_OneWayNo, c_s_OneWayNo, h_OneWayNo, c_OneWayNo, h_eqIntS, c_eqIntS, h_markIntS, c_markIntS, h_heldIntS, c_heldIntS, hv, hu, hlv, hlu, hc, hkv, hku, q1, q2, q3, q4, hg, hml, hml2, q5, q6, q7, hnb, ints_len, slI_sl, slI_nil, Bool.false_eq_true, beq_self_eq_true, Bool.not_true, Int.reduceLE, Int.reduceNeg, Int.reduceLT, bne_self_eq_false, List.zipIdx_cons, List.zipIdx_nil, ↓SP, SQ, Gam.add, stepM, callC, argC, lendO, nmBy, nmC, likeL, likeB, plainOb, offs, X, F, trP, trO, stepD, stepW, newA, SV.tr, SV.trL, fz, allP, Ob.tr, loadA, cellsA, SV.cells, binA, binI, eqOut, isSl, isPt, natOf, callee, snap, SV.refsL, SV.refs, thaw, fzAll, loA, hiA, elemOf, partsA, buildA, putCells, ↓reduceIte, reduceCtorEq, okCell, Nat.reduceAdd, Nat.reduceEqDiff, Nat.reduceSub, Nat.reduceMul, Nat.reduceLeDiff, Nat.reduceLT, Nat.reduceBEq, PV.scal, PV.scalL, SV.scal, SV.scalL, Ob.scal, PV.isCell, pure', resO]
        exact finA_val (by simp [retA, rvA, List.mapM_cons, List.mapM_nil, Option.pure_def, Option.bind_eq_bind, Option.bind_some, Option.map_some, mkE_cons, mk_nil, mkO_cons, mkO_nil, loadA, ↓reduceIte, List.take_succ_cons, List.take_zero, List.drop_zero, List.drop_succ_cons, List.length_cons, List.length_nil, Nat.reduceAdd, Nat.reduceEqDiff, Nat.reduceLeDiff, Nat.zero_add, Nat.le_refl, reduceCtorEq, SV.tr, SV.trL, nmF, rn_nil, rn_cons1, rn_cons2, List.map_cons, List.map_nil, List.all_cons, List.all_nil, plainOb, SV.refsL, SV.refs, Ob.refs, X, F, List.range_succ, List.range_zero, List.nil_append, List.cons_append, List.isEmpty_nil, decide_true, Nat.reduceLT, Bool.and_self, Bool.and_true, and_self, and_true, List.getElem?_cons_zero, List.getElem?_cons_succ, List.nodup_cons, List.nodup_nil, List.mem_cons, List.not_mem_nil, not_false_eq_true, or_false, List.append_nil, mkO, setO_mk, List.mem_singleton]) (by simp [SV.tr, SV.trL])
end Go.Proofs.Ytmncbkkpchmjhaa.Pam
