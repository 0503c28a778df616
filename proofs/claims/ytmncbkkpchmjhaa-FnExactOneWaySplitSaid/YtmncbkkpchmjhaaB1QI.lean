/- A part of the proof that stands in this folder: a small machine whose steps are shown to be the steps of the model, or walks of functions by it. No condition of its own. -/
import Derived.Test.YtmncbkkpchmjhaaB1QH
set_option linter.unusedVariables false
set_option linter.unusedSimpArgs false
namespace Go.Proofs.Ytmncbkkpchmjhaa.Pam
open Go
theorem says_of {P : Program} {Γ : Gam} (h : GS P Γ) {f : FuncId} {c : Con} (e : Γ f = c) : Says P f c := by
  subst e; exact fun args ext r ext' fs he => h f args ext r ext' fs he
def a_x_BestSplit (f_toIntS : FuncId) (f_s_BestSplit : FuncId) (f_BestSplit : FuncId) (f_eqIntS : FuncId) (f_markIntS : FuncId) (f_heldIntS : FuncId) : AFn := ⟨1, 
  .seq (.reg [⟨some 2, none, .d (.mv (.c (.bool false)))⟩])
  (.seq (.seq (.reg [⟨some 13, none, .d (.mv (.t 0))⟩,
    ⟨some 14, none, .d (.len (.t 13))⟩,
    ⟨some 15, none, .d (.bin .arith .gtr (.t 14) (.c (.int .i64 1048576)))⟩])
  (.cond (.t 15) (.seq (.reg [⟨some 2, none, .d (.mv (.c (.bool true)))⟩])
   (.ret)) (.skip)))
  (.seq (.reg [⟨some 17, none, .d (.mv (.t 0))⟩,
    ⟨some 18, none, .d (.call (.f f_toIntS) [(.t 17)])⟩,
    ⟨some 19, none, .d (.call (.f f_s_BestSplit) [(.t 18)])⟩,
    ⟨some 16, none, .d (.mv (.t 19))⟩,
    ⟨some 20, none, .d (.extract (.t 16) 0)⟩,
    ⟨some 21, none, .d (.extract (.t 16) 1)⟩,
    ⟨some 3, none, .d (.mv (.t 20))⟩,
    ⟨some 4, none, .d (.mv (.t 21))⟩])
  (.seq (.reg [⟨some 22, none, .d (.mv (.t 0))⟩,
    ⟨some 23, none, .w (.callL (.f f_toIntS) [(.t 22)] [] 1 false)⟩,
    ⟨some 5, none, .d (.mv (.t 23))⟩])
  (.seq (.reg [⟨some 25, none, .d (.mv (.t 5))⟩,
    ⟨some 26, none, .w (.callL (.f f_BestSplit) [(.t 25)] [] 1 false)⟩,
    ⟨some 24, none, .d (.mv (.t 26))⟩,
    ⟨some 27, none, .d (.extract (.t 24) 0)⟩,
    ⟨some 28, none, .d (.extract (.t 24) 1)⟩,
    ⟨some 6, none, .d (.mv (.t 27))⟩,
    ⟨some 7, none, .d (.mv (.t 28))⟩])
  (.seq (.seq (.reg [⟨some 29, none, .d (.mv (.t 6))⟩,
    ⟨some 30, none, .d (.mv (.t 3))⟩,
    ⟨some 31, none, .d (.call (.f f_eqIntS) [(.t 29), (.t 30)])⟩,
    ⟨some 32, none, .d (.not (.t 31))⟩,
    ⟨some 33, none, .d (.mv (.t 32))⟩,
    ⟨some 34, some (33, false), .d (.mv (.t 7))⟩,
    ⟨some 35, some (33, false), .d (.mv (.t 4))⟩,
    ⟨some 36, some (33, false), .d (.bin .bool .neq (.t 34) (.t 35))⟩,
    ⟨some 37, none, .d (.pick (.t 33) (.c (.bool true)) (.t 36))⟩])
  (.cond (.t 37) (.seq (.reg [⟨some 2, none, .d (.mv (.c (.bool false)))⟩])
   (.ret)) (.skip)))
  (.seq (.seq (.reg [⟨some 38, none, .d (.mv (.t 5))⟩,
    ⟨some 39, none, .d (.mv (.t 0))⟩,
    ⟨some 40, none, .d (.call (.f f_toIntS) [(.t 39)])⟩,
    ⟨some 41, none, .d (.call (.f f_eqIntS) [(.t 38), (.t 40)])⟩,
    ⟨some 42, none, .d (.not (.t 41))⟩])
  (.cond (.t 42) (.seq (.reg [⟨some 2, none, .d (.mv (.c (.bool false)))⟩])
   (.ret)) (.skip)))
  (.seq (.reg [⟨some 8, none, .d (.mv (.c (.int .i64 1)))⟩])
  (.seq (.reg [⟨some 43, none, .d (.mv (.t 5))⟩,
    ⟨some 44, none, .d (.mv (.t 8))⟩,
    ⟨some 45, none, .w (.callL (.f f_markIntS) [(.t 43), (.t 44)] [23] 0 false)⟩,
    ⟨some 8, none, .d (.mv (.t 45))⟩])
  (.seq (.seq (.reg [⟨some 46, none, .d (.mv (.t 8))⟩,
    ⟨some 47, none, .d (.bin .arith .lss (.t 46) (.c (.int .i64 0)))⟩,
    ⟨some 48, none, .d (.mv (.t 47))⟩,
    ⟨some 49, some (48, false), .d (.mv (.t 6))⟩,
    ⟨some 50, some (48, false), .d (.mv (.t 3))⟩,
    ⟨some 51, some (48, false), .d (.call (.f f_eqIntS) [(.t 49), (.t 50)])⟩,
    ⟨some 52, some (48, false), .d (.not (.t 51))⟩,
    ⟨some 53, none, .d (.pick (.t 48) (.c (.bool true)) (.t 52))⟩,
    ⟨some 54, none, .d (.mv (.t 53))⟩,
    ⟨some 55, some (54, false), .d (.mv (.t 7))⟩,
    ⟨some 56, some (54, false), .d (.mv (.t 4))⟩,
    ⟨some 57, some (54, false), .d (.bin .bool .neq (.t 55) (.t 56))⟩,
    ⟨some 58, none, .d (.pick (.t 54) (.c (.bool true)) (.t 57))⟩])
  (.cond (.t 58) (.seq (.reg [⟨some 2, none, .d (.mv (.c (.bool false)))⟩])
   (.ret)) (.skip)))
  (.seq (.reg [⟨some 9, none, .d (.mv (.c (.int .i64 1)))⟩])
  (.seq (.reg [⟨some 59, none, .d (.mv (.t 6))⟩,
    ⟨some 60, none, .d (.mv (.t 9))⟩,
    ⟨some 61, none, .w (.callL (.f f_markIntS) [(.t 59), (.t 60)] [26] 0 false)⟩,
    ⟨some 9, none, .d (.mv (.t 61))⟩])
  (.seq (.reg [⟨some 10, none, .d (.mv (.c (.int .i64 1)))⟩])
  (.seq (.reg [⟨some 62, none, .d (.mv (.t 6))⟩,
    ⟨some 63, none, .d (.mv (.t 10))⟩,
    ⟨some 64, none, .d (.call (.f f_heldIntS) [(.t 62), (.t 63)])⟩,
    ⟨some 10, none, .d (.mv (.t 64))⟩])
  (.seq (.seq (.reg [⟨some 65, none, .d (.mv (.t 10))⟩,
    ⟨some 66, none, .d (.bin .arith .lss (.t 65) (.c (.int .i64 0)))⟩])
  (.cond (.t 66) (.seq (.reg [⟨some 2, none, .d (.mv (.c (.bool false)))⟩])
   (.ret)) (.skip)))
  (.seq (.seq (.reg [⟨some 67, none, .d (.mv (.t 10))⟩,
    ⟨some 68, none, .d (.mv (.t 9))⟩,
    ⟨some 69, none, .d (.bin .arith .neq (.t 67) (.t 68))⟩])
  (.cond (.t 69) (.seq (.reg [⟨some 2, none, .d (.mv (.c (.bool false)))⟩])
   (.ret)) (.skip)))
  (.seq (.reg [⟨some 71, none, .d (.mv (.t 0))⟩,
    ⟨some 72, none, .d (.call (.f f_toIntS) [(.t 71)])⟩,
    ⟨some 73, none, .d (.call (.f f_BestSplit) [(.t 72)])⟩,
    ⟨some 70, none, .d (.mv (.t 73))⟩,
    ⟨some 74, none, .d (.extract (.t 70) 0)⟩,
    ⟨some 75, none, .d (.extract (.t 70) 1)⟩,
    ⟨some 11, none, .d (.mv (.t 74))⟩,
    ⟨some 12, none, .d (.mv (.t 75))⟩])
  (.seq (.seq (.reg [⟨some 76, none, .d (.mv (.t 11))⟩,
    ⟨some 77, none, .d (.mv (.t 3))⟩,
    ⟨some 78, none, .d (.call (.f f_eqIntS) [(.t 76), (.t 77)])⟩,
    ⟨some 79, none, .d (.not (.t 78))⟩,
    ⟨some 80, none, .d (.mv (.t 79))⟩,
    ⟨some 81, some (80, false), .d (.mv (.t 12))⟩,
    ⟨some 82, some (80, false), .d (.mv (.t 4))⟩,
    ⟨some 83, some (80, false), .d (.bin .bool .neq (.t 81) (.t 82))⟩,
    ⟨some 84, none, .d (.pick (.t 80) (.c (.bool true)) (.t 83))⟩])
  (.cond (.t 84) (.seq (.reg [⟨some 2, none, .d (.mv (.c (.bool false)))⟩])
   (.ret)) (.skip)))
  (.seq (.reg [⟨some 10, none, .d (.mv (.c (.int .i64 1)))⟩])
  (.seq (.reg [⟨some 85, none, .d (.mv (.t 6))⟩,
    ⟨some 86, none, .d (.mv (.t 10))⟩,
    ⟨some 87, none, .d (.call (.f f_heldIntS) [(.t 85), (.t 86)])⟩,
    ⟨some 10, none, .d (.mv (.t 87))⟩])
  (.seq (.seq (.reg [⟨some 88, none, .d (.mv (.t 10))⟩,
    ⟨some 89, none, .d (.bin .arith .lss (.t 88) (.c (.int .i64 0)))⟩])
  (.cond (.t 89) (.seq (.reg [⟨some 2, none, .d (.mv (.c (.bool false)))⟩])
   (.ret)) (.skip)))
  (.seq (.seq (.reg [⟨some 90, none, .d (.mv (.t 10))⟩,
    ⟨some 91, none, .d (.mv (.t 9))⟩,
    ⟨some 92, none, .d (.bin .arith .neq (.t 90) (.t 91))⟩])
  (.cond (.t 92) (.seq (.reg [⟨some 2, none, .d (.mv (.c (.bool false)))⟩])
   (.ret)) (.skip)))
  (.seq (.reg [⟨some 2, none, .d (.mv (.c (.bool true)))⟩])
  (.ret))))))))))))))))))))))), [.tmp 2]⟩
def n_x_BestSplit : Nat → Option Ann := fun d => if d = 23 then some ⟨[], 1, false⟩ else if d = 26 then some ⟨[], 1, false⟩ else if d = 45 then some ⟨[23], 0, false⟩ else if d = 61 then some ⟨[26], 0, false⟩ else none
abbrev k_x_BestSplit : List Nat := [0, 2, 3, 4, 5, 6, 7, 8, 9, 10, 11, 12, 15, 37, 42, 58, 66, 69, 84, 89, 92]
abbrev o_x_BestSplit : List Nat := [23, 26]
def c_x_BestSplit : Con := pure' fun
  | [.p v] => match slI v with
    | some c => if c.length ≤ 9223372036854775807 then some (.p (.bool true), []) else none
    | _ => none
  | _ => none
set_option maxRecDepth 100000 in
theorem s_x_BestSplit {P : Program} (hm : P.follows .mixedOrders = true) {Γ : Gam} (hΓ : GS P Γ) {n : FuncId} {f_toIntS : FuncId} {f_s_BestSplit : FuncId} {f_BestSplit : FuncId} {f_eqIntS : FuncId} {f_markIntS : FuncId} {f_heldIntS : FuncId} (is : Is P n (a_x_BestSplit f_toIntS f_s_BestSplit f_BestSplit f_eqIntS f_markIntS f_heldIntS)) (h_toIntS : Γ f_toIntS = c_toIntS) (h_s_BestSplit : Γ f_s_BestSplit = c_s_BestSplit) (h_eqIntS : Γ f_eqIntS = c_eqIntS) (h_markIntS : Γ f_markIntS = c_markIntS) (h_heldIntS : Γ f_heldIntS = c_heldIntS) (h_BestSplitO : Γ f_BestSplit = c_BestSplitO) : Says P n c_x_BestSplit := by
  refine Says.pure fun args r fs h => ?_
  split at h
  case h_2 => cases h
  rename_i v
  split at h
  case h_2 => cases h
  rename_i c hv
  split at h
  case isFalse => cases h
  rename_i hc
  simp only [Option.some.injEq, Prod.mk.injEq] at h
  obtain ⟨rfl, rfl⟩ := h
  have hlv := slI_len hv
  by_cases hkv : (c.length : Int) > 1048576
  · refine is.go hm hΓ k_x_BestSplit o_x_BestSplit (by simp [a_x_BestSplit]) ?_
    simp only [a_x_BestSplit, h_toIntS, c_toIntS, h_s_BestSplit, c_s_BestSplit, h_eqIntS, c_eqIntS, h_markIntS, c_markIntS, h_heldIntS, c_heldIntS, hlv, hc, hkv, Int.reduceLE, Int.reduceNeg, Int.reduceLT, List.zipIdx_cons, List.zipIdx_nil, ↓SP, SQ, Gam.add, stepM, callC, argC, lendO, nmBy, nmC, likeL, likeB, plainOb, offs, exL, X, F, trP, trO, stepD, stepW, newA, SV.tr, SV.trL, fz, allP, Ob.tr, loadA, cellsA, SV.cells, binA, binI, eqOut, isSl, isPt, natOf, callee, snap, SV.refsL, SV.refs, thaw, fzAll, loA, hiA, elemOf, partsA, buildA, putCells, ↓reduceIte, reduceCtorEq, okCell, Nat.reduceAdd, Nat.reduceEqDiff, Nat.reduceSub, Nat.reduceMul, Nat.reduceLeDiff, Nat.reduceLT, Nat.reduceBEq, PV.scal, PV.scalL, SV.scal, SV.scalL, Ob.scal, PV.isCell, pure', resO]
    exact finA_val (by simp [retA, rvA, mkE_cons, mk_nil, mkO_cons, mkO_nil, loadA, SV.tr, SV.trL, nmF, rn_nil, rn_cons1, rn_cons2, plainOb, SV.refsL, SV.refs, Ob.refs, X, F, List.range_succ, mkO, setO_mk]) (by simp [SV.tr, SV.trL])
  · have q1 : c.length ≤ 1048576 := by omega
    have q2 : c.length ≤ 1100000 := by omega
    have hml := marks_len 1 c.length
    have q7 : ¬ (1 : Int) + c.length < 0 := by omega
    have hnb : held [] 1 := fun j hj => by simp at hj
    cases hg : (okC c && !told c) with
    | true =>
      have hok : okC c = true := by simp only [Bool.and_eq_true] at hg; exact hg.1
      have hu : told c = false := by simp only [Bool.and_eq_true, Bool.not_eq_true'] at hg; exact hg.2
      have hsl := spl_len (HB.of hok hu).mem
      obtain ⟨⟨_, l3⟩, _, _⟩ := okC_out hok
      have q3 : (hdB c).length ≤ 1100000 := by omega
      have hm1 := marks_len 1 (hdB c).length
      have hhm := held_marks 1 (hdB c).length
      have q8 : ¬ (1 : Int) + (hdB c).length < 0 := by omega
      refine is.go hm hΓ k_x_BestSplit o_x_BestSplit (by simp [a_x_BestSplit]) ?_
      simp only [a_x_BestSplit, h_toIntS, c_toIntS, h_s_BestSplit, c_s_BestSplit, h_eqIntS, c_eqIntS, h_markIntS, c_markIntS, h_heldIntS, c_heldIntS, h_BestSplitO, c_BestSplitO, hv, hlv, hc, hkv, q1, q2, q3, hg, hml, q7, hm1, hhm, q8, ints_len, slI_sl, beq_self_eq_true, Bool.not_true, Int.reduceLE, Int.reduceNeg, Int.reduceLT, bne_self_eq_false, List.zipIdx_cons, List.zipIdx_nil, ↓SP, SQ, Gam.add, stepM, callC, argC, lendO, nmBy, nmC, likeL, likeB, plainOb, offs, exL, X, F, trP, trO, stepD, stepW, newA, SV.tr, SV.trL, fz, allP, Ob.tr, loadA, cellsA, SV.cells, binA, binI, eqOut, isSl, isPt, natOf, callee, snap, SV.refsL, SV.refs, thaw, fzAll, loA, hiA, elemOf, partsA, buildA, putCells, ↓reduceIte, reduceCtorEq, okCell, Nat.reduceAdd, Nat.reduceEqDiff, Nat.reduceSub, Nat.reduceMul, Nat.reduceLeDiff, Nat.reduceLT, Nat.reduceBEq, PV.scal, PV.scalL, SV.scal, SV.scalL, Ob.scal, PV.isCell, pure', resO]
      exact finA_val (by simp [retA, rvA, mkE_cons, mk_nil, mkO_cons, mkO_nil, loadA, SV.tr, SV.trL, nmF, rn_nil, rn_cons1, rn_cons2, plainOb, SV.refsL, SV.refs, Ob.refs, X, F, List.range_succ, mkO, setO_mk]) (by simp [SV.tr, SV.trL])
    | false =>
      have hse : slI (.sl 1 []) = some [] := rfl
      refine is.go hm hΓ k_x_BestSplit o_x_BestSplit (by simp [a_x_BestSplit]) ?_
      simp only [a_x_BestSplit, h_toIntS, c_toIntS, h_s_BestSplit, c_s_BestSplit, h_eqIntS, c_eqIntS, h_markIntS, c_markIntS, h_heldIntS, c_heldIntS, h_BestSplitO, c_BestSplitO, hv, hlv, hc, hkv, q1, q2, hg, hml, q7, hnb, hse, ints_len, slI_sl, slI_nil, Bool.false_eq_true, beq_self_eq_true, Bool.not_true, Int.reduceLE, Int.reduceNeg, Int.reduceLT, bne_self_eq_false, List.zipIdx_cons, List.zipIdx_nil, ↓SP, SQ, Gam.add, stepM, callC, argC, lendO, nmBy, nmC, likeL, likeB, plainOb, offs, exL, X, F, trP, trO, stepD, stepW, newA, SV.tr, SV.trL, fz, allP, Ob.tr, loadA, cellsA, SV.cells, binA, binI, eqOut, isSl, isPt, natOf, callee, snap, SV.refsL, SV.refs, thaw, fzAll, loA, hiA, elemOf, partsA, buildA, putCells, ↓reduceIte, reduceCtorEq, okCell, Nat.reduceAdd, Nat.reduceEqDiff, Nat.reduceSub, Nat.reduceMul, Nat.reduceLeDiff, Nat.reduceLT, Nat.reduceBEq, PV.scal, PV.scalL, SV.scal, SV.scalL, Ob.scal, PV.isCell, pure', resO]
      exact finA_val (by simp [retA, rvA, mkE_cons, mk_nil, mkO_cons, mkO_nil, loadA, SV.tr, SV.trL, nmF, rn_nil, rn_cons1, rn_cons2, plainOb, SV.refsL, SV.refs, Ob.refs, X, F, List.range_succ, mkO, setO_mk]) (by simp [SV.tr, SV.trL])
def a_x_OneWaySplit (f_toIntS : FuncId) (f_s_OneWaySplit : FuncId) (f_OneWaySplit : FuncId) (f_eqIntS : FuncId) (f_markIntS : FuncId) (f_heldIntS : FuncId) : AFn := ⟨1, 
  .seq (.reg [⟨some 2, none, .d (.mv (.c (.bool false)))⟩])
  (.seq (.seq (.reg [⟨some 13, none, .d (.mv (.t 0))⟩,
    ⟨some 14, none, .d (.len (.t 13))⟩,
    ⟨some 15, none, .d (.bin .arith .gtr (.t 14) (.c (.int .i64 1048576)))⟩])
  (.cond (.t 15) (.seq (.reg [⟨some 2, none, .d (.mv (.c (.bool true)))⟩])
   (.ret)) (.skip)))
  (.seq (.reg [⟨some 17, none, .d (.mv (.t 0))⟩,
    ⟨some 18, none, .d (.call (.f f_toIntS) [(.t 17)])⟩,
    ⟨some 19, none, .d (.call (.f f_s_OneWaySplit) [(.t 18)])⟩,
    ⟨some 16, none, .d (.mv (.t 19))⟩,
    ⟨some 20, none, .d (.extract (.t 16) 0)⟩,
    ⟨some 21, none, .d (.extract (.t 16) 1)⟩,
    ⟨some 3, none, .d (.mv (.t 20))⟩,
    ⟨some 4, none, .d (.mv (.t 21))⟩])
  (.seq (.reg [⟨some 22, none, .d (.mv (.t 0))⟩,
    ⟨some 23, none, .w (.callL (.f f_toIntS) [(.t 22)] [] 1 false)⟩,
    ⟨some 5, none, .d (.mv (.t 23))⟩])
  (.seq (.reg [⟨some 25, none, .d (.mv (.t 5))⟩,
    ⟨some 26, none, .w (.callL (.f f_OneWaySplit) [(.t 25)] [] 1 false)⟩,
    ⟨some 24, none, .d (.mv (.t 26))⟩,
    ⟨some 27, none, .d (.extract (.t 24) 0)⟩,
    ⟨some 28, none, .d (.extract (.t 24) 1)⟩,
    ⟨some 6, none, .d (.mv (.t 27))⟩,
    ⟨some 7, none, .d (.mv (.t 28))⟩])
  (.seq (.seq (.reg [⟨some 29, none, .d (.mv (.t 6))⟩,
    ⟨some 30, none, .d (.mv (.t 3))⟩,
    ⟨some 31, none, .d (.call (.f f_eqIntS) [(.t 29), (.t 30)])⟩,
    ⟨some 32, none, .d (.not (.t 31))⟩,
    ⟨some 33, none, .d (.mv (.t 32))⟩,
    ⟨some 34, some (33, false), .d (.mv (.t 7))⟩,
    ⟨some 35, some (33, false), .d (.mv (.t 4))⟩,
    ⟨some 36, some (33, false), .d (.bin .bool .neq (.t 34) (.t 35))⟩,
    ⟨some 37, none, .d (.pick (.t 33) (.c (.bool true)) (.t 36))⟩])
  (.cond (.t 37) (.seq (.reg [⟨some 2, none, .d (.mv (.c (.bool false)))⟩])
   (.ret)) (.skip)))
  (.seq (.seq (.reg [⟨some 38, none, .d (.mv (.t 5))⟩,
    ⟨some 39, none, .d (.mv (.t 0))⟩,
    ⟨some 40, none, .d (.call (.f f_toIntS) [(.t 39)])⟩,
    ⟨some 41, none, .d (.call (.f f_eqIntS) [(.t 38), (.t 40)])⟩,
    ⟨some 42, none, .d (.not (.t 41))⟩])
  (.cond (.t 42) (.seq (.reg [⟨some 2, none, .d (.mv (.c (.bool false)))⟩])
   (.ret)) (.skip)))
  (.seq (.reg [⟨some 8, none, .d (.mv (.c (.int .i64 1)))⟩])
  (.seq (.reg [⟨some 43, none, .d (.mv (.t 5))⟩,
    ⟨some 44, none, .d (.mv (.t 8))⟩,
    ⟨some 45, none, .w (.callL (.f f_markIntS) [(.t 43), (.t 44)] [23] 0 false)⟩,
    ⟨some 8, none, .d (.mv (.t 45))⟩])
  (.seq (.seq (.reg [⟨some 46, none, .d (.mv (.t 8))⟩,
    ⟨some 47, none, .d (.bin .arith .lss (.t 46) (.c (.int .i64 0)))⟩,
    ⟨some 48, none, .d (.mv (.t 47))⟩,
    ⟨some 49, some (48, false), .d (.mv (.t 6))⟩,
    ⟨some 50, some (48, false), .d (.mv (.t 3))⟩,
    ⟨some 51, some (48, false), .d (.call (.f f_eqIntS) [(.t 49), (.t 50)])⟩,
    ⟨some 52, some (48, false), .d (.not (.t 51))⟩,
    ⟨some 53, none, .d (.pick (.t 48) (.c (.bool true)) (.t 52))⟩,
    ⟨some 54, none, .d (.mv (.t 53))⟩,
    ⟨some 55, some (54, false), .d (.mv (.t 7))⟩,
    ⟨some 56, some (54, false), .d (.mv (.t 4))⟩,
    ⟨some 57, some (54, false), .d (.bin .bool .neq (.t 55) (.t 56))⟩,
    ⟨some 58, none, .d (.pick (.t 54) (.c (.bool true)) (.t 57))⟩])
  (.cond (.t 58) (.seq (.reg [⟨some 2, none, .d (.mv (.c (.bool false)))⟩])
   (.ret)) (.skip)))
  (.seq (.reg [⟨some 9, none, .d (.mv (.c (.int .i64 1)))⟩])
  (.seq (.reg [⟨some 59, none, .d (.mv (.t 6))⟩,
    ⟨some 60, none, .d (.mv (.t 9))⟩,
    ⟨some 61, none, .w (.callL (.f f_markIntS) [(.t 59), (.t 60)] [26] 0 false)⟩,
    ⟨some 9, none, .d (.mv (.t 61))⟩])
  (.seq (.reg [⟨some 10, none, .d (.mv (.c (.int .i64 1)))⟩])
  (.seq (.reg [⟨some 62, none, .d (.mv (.t 6))⟩,
    ⟨some 63, none, .d (.mv (.t 10))⟩,
    ⟨some 64, none, .d (.call (.f f_heldIntS) [(.t 62), (.t 63)])⟩,
    ⟨some 10, none, .d (.mv (.t 64))⟩])
  (.seq (.seq (.reg [⟨some 65, none, .d (.mv (.t 10))⟩,
    ⟨some 66, none, .d (.bin .arith .lss (.t 65) (.c (.int .i64 0)))⟩])
  (.cond (.t 66) (.seq (.reg [⟨some 2, none, .d (.mv (.c (.bool false)))⟩])
   (.ret)) (.skip)))
  (.seq (.seq (.reg [⟨some 67, none, .d (.mv (.t 10))⟩,
    ⟨some 68, none, .d (.mv (.t 9))⟩,
    ⟨some 69, none, .d (.bin .arith .neq (.t 67) (.t 68))⟩])
  (.cond (.t 69) (.seq (.reg [⟨some 2, none, .d (.mv (.c (.bool false)))⟩])
   (.ret)) (.skip)))
  (.seq (.reg [⟨some 71, none, .d (.mv (.t 0))⟩,
    ⟨some 72, none, .d (.call (.f f_toIntS) [(.t 71)])⟩,
    ⟨some 73, none, .d (.call (.f f_OneWaySplit) [(.t 72)])⟩,
    ⟨some 70, none, .d (.mv (.t 73))⟩,
    ⟨some 74, none, .d (.extract (.t 70) 0)⟩,
    ⟨some 75, none, .d (.extract (.t 70) 1)⟩,
    ⟨some 11, none, .d (.mv (.t 74))⟩,
    ⟨some 12, none, .d (.mv (.t 75))⟩])
  (.seq (.seq (.reg [⟨some 76, none, .d (.mv (.t 11))⟩,
    ⟨some 77, none, .d (.mv (.t 3))⟩,
    ⟨some 78, none, .d (.call (.f f_eqIntS) [(.t 76), (.t 77)])⟩,
    ⟨some 79, none, .d (.not (.t 78))⟩,
    ⟨some 80, none, .d (.mv (.t 79))⟩,
    ⟨some 81, some (80, false), .d (.mv (.t 12))⟩,
    ⟨some 82, some (80, false), .d (.mv (.t 4))⟩,
    ⟨some 83, some (80, false), .d (.bin .bool .neq (.t 81) (.t 82))⟩,
    ⟨some 84, none, .d (.pick (.t 80) (.c (.bool true)) (.t 83))⟩])
  (.cond (.t 84) (.seq (.reg [⟨some 2, none, .d (.mv (.c (.bool false)))⟩])
   (.ret)) (.skip)))
  (.seq (.reg [⟨some 10, none, .d (.mv (.c (.int .i64 1)))⟩])
  (.seq (.reg [⟨some 85, none, .d (.mv (.t 6))⟩,
    ⟨some 86, none, .d (.mv (.t 10))⟩,
    ⟨some 87, none, .d (.call (.f f_heldIntS) [(.t 85), (.t 86)])⟩,
    ⟨some 10, none, .d (.mv (.t 87))⟩])
  (.seq (.seq (.reg [⟨some 88, none, .d (.mv (.t 10))⟩,
    ⟨some 89, none, .d (.bin .arith .lss (.t 88) (.c (.int .i64 0)))⟩])
  (.cond (.t 89) (.seq (.reg [⟨some 2, none, .d (.mv (.c (.bool false)))⟩])
   (.ret)) (.skip)))
  (.seq (.seq (.reg [⟨some 90, none, .d (.mv (.t 10))⟩,
    ⟨some 91, none, .d (.mv (.t 9))⟩,
    ⟨some 92, none, .d (.bin .arith .neq (.t 90) (.t 91))⟩])
  (.cond (.t 92) (.seq (.reg [⟨some 2, none, .d (.mv (.c (.bool false)))⟩])
   (.ret)) (.skip)))
  (.seq (.reg [⟨some 2, none, .d (.mv (.c (.bool true)))⟩])
  (.ret))))))))))))))))))))))), [.tmp 2]⟩
def n_x_OneWaySplit : Nat → Option Ann := fun d => if d = 23 then some ⟨[], 1, false⟩ else if d = 26 then some ⟨[], 1, false⟩ else if d = 45 then some ⟨[23], 0, false⟩ else if d = 61 then some ⟨[26], 0, false⟩ else none
abbrev k_x_OneWaySplit : List Nat := [0, 2, 3, 4, 5, 6, 7, 8, 9, 10, 11, 12, 15, 37, 42, 58, 66, 69, 84, 89, 92]
abbrev o_x_OneWaySplit : List Nat := [23, 26]
def c_x_OneWaySplit : Con := pure' fun
  | [.p v] => match slI v with
    | some c => if c.length ≤ 9223372036854775807 then some (.p (.bool true), []) else none
    | _ => none
  | _ => none
set_option maxRecDepth 100000 in
theorem s_x_OneWaySplit {P : Program} (hm : P.follows .mixedOrders = true) {Γ : Gam} (hΓ : GS P Γ) {n : FuncId} {f_toIntS : FuncId} {f_s_OneWaySplit : FuncId} {f_OneWaySplit : FuncId} {f_eqIntS : FuncId} {f_markIntS : FuncId} {f_heldIntS : FuncId} (is : Is P n (a_x_OneWaySplit f_toIntS f_s_OneWaySplit f_OneWaySplit f_eqIntS f_markIntS f_heldIntS)) (h_toIntS : Γ f_toIntS = c_toIntS) (h_s_OneWaySplit : Γ f_s_OneWaySplit = c_s_OneWaySplit) (h_eqIntS : Γ f_eqIntS = c_eqIntS) (h_markIntS : Γ f_markIntS = c_markIntS) (h_heldIntS : Γ f_heldIntS = c_heldIntS) (h_OneWaySplitO : Γ f_OneWaySplit = c_OneWaySplitO) : Says P n c_x_OneWaySplit := by
  refine Says.pure fun args r fs h => ?_
  split at h
  case h_2 => cases h
  rename_i v
  split at h
  case h_2 => cases h
  rename_i c hv
  split at h
  case isFalse => cases h
  rename_i hc
  simp only [Option.some.injEq, Prod.mk.injEq] at h
  obtain ⟨rfl, rfl⟩ := h
  have hlv := slI_len hv
  by_cases hkv : (c.length : Int) > 1048576
  · refine is.go hm hΓ k_x_OneWaySplit o_x_OneWaySplit (by simp [a_x_OneWaySplit]) ?_
    simp only [a_x_OneWaySplit, h_toIntS, c_toIntS, h_s_OneWaySplit, c_s_OneWaySplit, h_eqIntS, c_eqIntS, h_markIntS, c_markIntS, h_heldIntS, c_heldIntS, hlv, hc, hkv, Int.reduceLE, Int.reduceNeg, Int.reduceLT, List.zipIdx_cons, List.zipIdx_nil, ↓SP, SQ, Gam.add, stepM, callC, argC, lendO, nmBy, nmC, likeL, likeB, plainOb, offs, exL, X, F, trP, trO, stepD, stepW, newA, SV.tr, SV.trL, fz, allP, Ob.tr, loadA, cellsA, SV.cells, binA, binI, eqOut, isSl, isPt, natOf, callee, snap, SV.refsL, SV.refs, thaw, fzAll, loA, hiA, elemOf, partsA, buildA, putCells, ↓reduceIte, reduceCtorEq, okCell, Nat.reduceAdd, Nat.reduceEqDiff, Nat.reduceSub, Nat.reduceMul, Nat.reduceLeDiff, Nat.reduceLT, Nat.reduceBEq, PV.scal, PV.scalL, SV.scal, SV.scalL, Ob.scal, PV.isCell, pure', resO]
    exact finA_val (by simp [retA, rvA, mkE_cons, mk_nil, mkO_cons, mkO_nil, loadA, SV.tr, SV.trL, nmF, rn_nil, rn_cons1, rn_cons2, plainOb, SV.refsL, SV.refs, Ob.refs, X, F, List.range_succ, mkO, setO_mk]) (by simp [SV.tr, SV.trL])
  · have q1 : c.length ≤ 1048576 := by omega
    have q2 : c.length ≤ 1100000 := by omega
    have hml := marks_len 1 c.length
    have q7 : ¬ (1 : Int) + c.length < 0 := by omega
    have hnb : held [] 1 := fun j hj => by simp at hj
    cases hg : (okC c && !told c) with
    | true =>
      have hok : okC c = true := by simp only [Bool.and_eq_true] at hg; exact hg.1
      have hu : told c = false := by simp only [Bool.and_eq_true, Bool.not_eq_true'] at hg; exact hg.2
      have hsl := spl_len (HD.of hok hu).mem
      obtain ⟨⟨_, l3⟩, _, _⟩ := okC_out hok
      have q3 : (hdS c).length ≤ 1100000 := by omega
      have hm1 := marks_len 1 (hdS c).length
      have hhm := held_marks 1 (hdS c).length
      have q8 : ¬ (1 : Int) + (hdS c).length < 0 := by omega
      refine is.go hm hΓ k_x_OneWaySplit o_x_OneWaySplit (by simp [a_x_OneWaySplit]) ?_
      simp only [a_x_OneWaySplit, h_toIntS, c_toIntS, h_s_OneWaySplit, c_s_OneWaySplit, h_eqIntS, c_eqIntS, h_markIntS, c_markIntS, h_heldIntS, c_heldIntS, h_OneWaySplitO, c_OneWaySplitO, hv, hlv, hc, hkv, q1, q2, q3, hg, hml, q7, hm1, hhm, q8, ints_len, slI_sl, beq_self_eq_true, Bool.not_true, Int.reduceLE, Int.reduceNeg, Int.reduceLT, bne_self_eq_false, List.zipIdx_cons, List.zipIdx_nil, ↓SP, SQ, Gam.add, stepM, callC, argC, lendO, nmBy, nmC, likeL, likeB, plainOb, offs, exL, X, F, trP, trO, stepD, stepW, newA, SV.tr, SV.trL, fz, allP, Ob.tr, loadA, cellsA, SV.cells, binA, binI, eqOut, isSl, isPt, natOf, callee, snap, SV.refsL, SV.refs, thaw, fzAll, loA, hiA, elemOf, partsA, buildA, putCells, ↓reduceIte, reduceCtorEq, okCell, Nat.reduceAdd, Nat.reduceEqDiff, Nat.reduceSub, Nat.reduceMul, Nat.reduceLeDiff, Nat.reduceLT, Nat.reduceBEq, PV.scal, PV.scalL, SV.scal, SV.scalL, Ob.scal, PV.isCell, pure', resO]
      exact finA_val (by simp [retA, rvA, mkE_cons, mk_nil, mkO_cons, mkO_nil, loadA, SV.tr, SV.trL, nmF, rn_nil, rn_cons1, rn_cons2, plainOb, SV.refsL, SV.refs, Ob.refs, X, F, List.range_succ, mkO, setO_mk]) (by simp [SV.tr, SV.trL])
    | false =>
      have hse : slI (.sl 1 []) = some [] := rfl
      refine is.go hm hΓ k_x_OneWaySplit o_x_OneWaySplit (by simp [a_x_OneWaySplit]) ?_
      simp only [a_x_OneWaySplit, h_toIntS, c_toIntS, h_s_OneWaySplit, c_s_OneWaySplit, h_eqIntS, c_eqIntS, h_markIntS, c_markIntS, h_heldIntS, c_heldIntS, h_OneWaySplitO, c_OneWaySplitO, hv, hlv, hc, hkv, q1, q2, hg, hml, q7, hnb, hse, ints_len, slI_sl, slI_nil, Bool.false_eq_true, beq_self_eq_true, Bool.not_true, Int.reduceLE, Int.reduceNeg, Int.reduceLT, bne_self_eq_false, List.zipIdx_cons, List.zipIdx_nil, ↓SP, SQ, Gam.add, stepM, callC, argC, lendO, nmBy, nmC, likeL, likeB, plainOb, offs, exL, X, F, trP, trO, stepD, stepW, newA, SV.tr, SV.trL, fz, allP, Ob.tr, loadA, cellsA, SV.cells, binA, binI, eqOut, isSl, isPt, natOf, callee, snap, SV.refsL, SV.refs, thaw, fzAll, loA, hiA, elemOf, partsA, buildA, putCells, ↓reduceIte, reduceCtorEq, okCell, Nat.reduceAdd, Nat.reduceEqDiff, Nat.reduceSub, Nat.reduceMul, Nat.reduceLeDiff, Nat.reduceLT, Nat.reduceBEq, PV.scal, PV.scalL, SV.scal, SV.scalL, Ob.scal, PV.isCell, pure', resO]
      exact finA_val (by simp [retA, rvA, mkE_cons, mk_nil, mkO_cons, mkO_nil, loadA, SV.tr, SV.trL, nmF, rn_nil, rn_cons1, rn_cons2, plainOb, SV.refsL, SV.refs, Ob.refs, X, F, List.range_succ, mkO, setO_mk]) (by simp [SV.tr, SV.trL])
end Go.Proofs.Ytmncbkkpchmjhaa.Pam
