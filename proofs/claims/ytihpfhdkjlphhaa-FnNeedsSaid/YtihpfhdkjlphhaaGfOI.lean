/- A part of the proof that stands in this folder: a small machine whose steps are shown to be the steps of the model, or walks of functions by it. No condition of its own. -/
import Derived.Test.YtihpfhdkjlphhaaGfOP
set_option linter.unusedVariables false
set_option linter.unusedSimpArgs false
namespace Go.Proofs.Ytihpfhdkjlphhaa.Pam
open Go
def c_rBig : Con := pure' fun
  | [.p v] => match slU v with
    | some l => some (.p (.bool (decide (l.length > 65536))), [])
    | none => none
  | _ => none
theorem slU_len {v : PV} {l : List Int} (h : slU v = some l) (O : Objs) : lenA O (.p v) = some l.length := by
  rcases (slU_out h).1 with rfl | ⟨rfl, rfl⟩
  · simp [lenA, u8s_len]
  · simp [lenA]
theorem s_rBig {P : Program} (hm : P.follows .mixedOrders = true) {Γ : Gam} (hΓ : GS P Γ) {n : FuncId} (is : Is P n a_rBig)  : Says P n c_rBig := by
  refine Says.pure fun args r fs h => ?_
  split at h
  case h_2 => cases h
  rename_i v
  split at h
  case h_2 => cases h
  rename_i l hv
  simp only [Option.some.injEq, Prod.mk.injEq] at h
  obtain ⟨rfl, rfl⟩ := h
  have hlv := slU_len hv
  by_cases hk : l.length > 65536
  · have h2 : (l.length : Int) > 65536 := by omega
    refine is.go hm hΓ k_rBig o_rBig (by simp [a_rBig]) ?_
    simp only [a_rBig, hlv, h2, List.zipIdx_cons, List.zipIdx_nil, ↓SP, SQ, Gam.add, stepM, callC, argC, lendO, nmBy, nmC, likeL, likeB, plainOb, offs, exL, X, F, trP, trO, stepD, stepW, newA, SV.tr, SV.trL, fz, allP, Ob.tr, loadA, cellsA, SV.cells, binA, binI, eqOut, isSl, isPt, natOf, callee, snap, SV.refsL, SV.refs, thaw, fzAll, loA, hiA, elemOf, partsA, buildA, putCells, ↓reduceIte, reduceCtorEq, okCell, Nat.reduceAdd, Nat.reduceEqDiff, Nat.reduceSub, Nat.reduceMul, Nat.reduceLeDiff, Nat.reduceLT, Nat.reduceBEq, PV.scal, PV.scalL, SV.scal, SV.scalL, Ob.scal, PV.isCell, pure', resO]
    exact finA_val (by simp [hk, retA, rvA, mkE_cons, mk_nil, mkO_cons, mkO_nil, loadA, SV.tr, SV.trL, nmF, rn_nil, rn_cons1, rn_cons2, plainOb, SV.refsL, SV.refs, Ob.refs, X, F, List.range_succ, mkO, setO_mk]) (by simp [SV.tr, SV.trL])
  · have h2 : ¬ (l.length : Int) > 65536 := by omega
    refine is.go hm hΓ k_rBig o_rBig (by simp [a_rBig]) ?_
    simp only [a_rBig, hlv, h2, List.zipIdx_cons, List.zipIdx_nil, ↓SP, SQ, Gam.add, stepM, callC, argC, lendO, nmBy, nmC, likeL, likeB, plainOb, offs, exL, X, F, trP, trO, stepD, stepW, newA, SV.tr, SV.trL, fz, allP, Ob.tr, loadA, cellsA, SV.cells, binA, binI, eqOut, isSl, isPt, natOf, callee, snap, SV.refsL, SV.refs, thaw, fzAll, loA, hiA, elemOf, partsA, buildA, putCells, ↓reduceIte, reduceCtorEq, okCell, Nat.reduceAdd, Nat.reduceEqDiff, Nat.reduceSub, Nat.reduceMul, Nat.reduceLeDiff, Nat.reduceLT, Nat.reduceBEq, PV.scal, PV.scalL, SV.scal, SV.scalL, Ob.scal, PV.isCell, pure', resO]
    exact finA_val (by simp [hk, retA, rvA, mkE_cons, mk_nil, mkO_cons, mkO_nil, loadA, SV.tr, SV.trL, nmF, rn_nil, rn_cons1, rn_cons2, plainOb, SV.refsL, SV.refs, Ob.refs, X, F, List.range_succ, mkO, setO_mk]) (by simp [SV.tr, SV.trL])
theorem slI_e : slI (.sl 1 []) = some [] := rfl
def a_x_Needs (f_rBig : FuncId) (f_DrawSplitNeed : FuncId) (f_SplitNeed : FuncId) (f_s_SplitNeed : FuncId) (f_YesCounts : FuncId) (f_s_YesCounts : FuncId) (f_eqIntS : FuncId) (f_NoCounts : FuncId) (f_s_NoCounts : FuncId) (f_NeedOf : FuncId) (f_s_NeedOf : FuncId) (f_AreCounts : FuncId) (f_BestSplit : FuncId) (f_s_BestSplit : FuncId) (f_CountBestSplits : FuncId) (f_s_CountBestSplits : FuncId) : AFn := ⟨1, 
  .seq (.reg [⟨some 2, none, .d (.mv (.c (.bool false)))⟩])
  (.seq (.seq (.reg [⟨some 39, none, .d (.mv (.t 0))⟩,
    ⟨some 40, none, .d (.call (.f f_rBig) [(.t 39)])⟩])
  (.cond (.t 40) (.seq (.reg [⟨some 2, none, .d (.mv (.c (.bool true)))⟩])
   (.ret)) (.skip)))
  (.seq (.reg [⟨some 42, none, .d (.mv (.t 0))⟩,
    ⟨some 43, none, .d (.call (.f f_DrawSplitNeed) [(.t 42)])⟩,
    ⟨some 41, none, .d (.mv (.t 43))⟩,
    ⟨some 44, none, .d (.extract (.t 41) 0)⟩,
    ⟨some 45, none, .d (.extract (.t 41) 1)⟩,
    ⟨some 3, none, .d (.mv (.t 44))⟩,
    ⟨some 4, none, .d (.mv (.t 45))⟩])
  (.seq (.reg [⟨some 47, none, .d (.mv (.t 3))⟩,
    ⟨some 48, none, .d (.mv (.t 4))⟩,
    ⟨some 49, none, .d (.call (.f f_SplitNeed) [(.t 47), (.t 48)])⟩,
    ⟨some 46, none, .d (.mv (.t 49))⟩,
    ⟨some 50, none, .d (.extract (.t 46) 0)⟩,
    ⟨some 51, none, .d (.extract (.t 46) 1)⟩,
    ⟨some 5, none, .d (.mv (.t 50))⟩,
    ⟨some 6, none, .d (.mv (.t 51))⟩])
  (.seq (.seq (.reg [⟨some 53, none, .d (.mv (.t 3))⟩,
    ⟨some 54, none, .d (.mv (.t 4))⟩,
    ⟨some 55, none, .d (.call (.f f_s_SplitNeed) [(.t 53), (.t 54)])⟩,
    ⟨some 52, none, .d (.mv (.t 55))⟩,
    ⟨some 56, none, .d (.extract (.t 52) 0)⟩,
    ⟨some 57, none, .d (.extract (.t 52) 1)⟩,
    ⟨some 7, none, .d (.mv (.t 56))⟩,
    ⟨some 8, none, .d (.mv (.t 57))⟩])
  (.seq (.reg [⟨some 58, none, .d (.mv (.t 5))⟩,
    ⟨some 59, none, .d (.mv (.t 7))⟩,
    ⟨some 60, none, .d (.bin .arith .neq (.t 58) (.t 59))⟩,
    ⟨some 61, none, .d (.mv (.t 60))⟩,
    ⟨some 62, some (61, false), .d (.mv (.t 6))⟩,
    ⟨some 63, some (61, false), .d (.mv (.t 8))⟩,
    ⟨some 64, some (61, false), .d (.bin .bool .neq (.t 62) (.t 63))⟩,
    ⟨some 65, none, .d (.pick (.t 61) (.c (.bool true)) (.t 64))⟩])
  (.cond (.t 65) (.seq (.reg [⟨some 2, none, .d (.mv (.c (.bool false)))⟩])
   (.ret)) (.skip))))
  (.seq (.reg [⟨some 67, none, .d (.mv (.t 3))⟩,
    ⟨some 68, none, .d (.mv (.t 4))⟩,
    ⟨some 69, none, .d (.call (.f f_YesCounts) [(.t 67), (.t 68)])⟩,
    ⟨some 66, none, .d (.mv (.t 69))⟩,
    ⟨some 70, none, .d (.extract (.t 66) 0)⟩,
    ⟨some 71, none, .d (.extract (.t 66) 1)⟩,
    ⟨some 9, none, .d (.mv (.t 70))⟩,
    ⟨some 10, none, .d (.mv (.t 71))⟩])
  (.seq (.seq (.reg [⟨some 73, none, .d (.mv (.t 3))⟩,
    ⟨some 74, none, .d (.mv (.t 4))⟩,
    ⟨some 75, none, .d (.call (.f f_s_YesCounts) [(.t 73), (.t 74)])⟩,
    ⟨some 72, none, .d (.mv (.t 75))⟩,
    ⟨some 76, none, .d (.extract (.t 72) 0)⟩,
    ⟨some 77, none, .d (.extract (.t 72) 1)⟩,
    ⟨some 11, none, .d (.mv (.t 76))⟩,
    ⟨some 12, none, .d (.mv (.t 77))⟩])
  (.seq (.reg [⟨some 78, none, .d (.mv (.t 10))⟩,
    ⟨some 79, none, .d (.mv (.t 12))⟩,
    ⟨some 80, none, .d (.bin .bool .neq (.t 78) (.t 79))⟩,
    ⟨some 81, none, .d (.mv (.t 80))⟩,
    ⟨some 82, some (81, false), .d (.mv (.t 9))⟩,
    ⟨some 83, some (81, false), .d (.mv (.t 11))⟩,
    ⟨some 84, some (81, false), .d (.call (.f f_eqIntS) [(.t 82), (.t 83)])⟩,
    ⟨some 85, some (81, false), .d (.not (.t 84))⟩,
    ⟨some 86, none, .d (.pick (.t 81) (.c (.bool true)) (.t 85))⟩])
  (.cond (.t 86) (.seq (.reg [⟨some 2, none, .d (.mv (.c (.bool false)))⟩])
   (.ret)) (.skip))))
  (.seq (.reg [⟨some 88, none, .d (.mv (.t 3))⟩,
    ⟨some 89, none, .d (.mv (.t 4))⟩,
    ⟨some 90, none, .d (.call (.f f_NoCounts) [(.t 88), (.t 89)])⟩,
    ⟨some 87, none, .d (.mv (.t 90))⟩,
    ⟨some 91, none, .d (.extract (.t 87) 0)⟩,
    ⟨some 92, none, .d (.extract (.t 87) 1)⟩,
    ⟨some 13, none, .d (.mv (.t 91))⟩,
    ⟨some 14, none, .d (.mv (.t 92))⟩])
  (.seq (.seq (.reg [⟨some 94, none, .d (.mv (.t 3))⟩,
    ⟨some 95, none, .d (.mv (.t 4))⟩,
    ⟨some 96, none, .d (.call (.f f_s_NoCounts) [(.t 94), (.t 95)])⟩,
    ⟨some 93, none, .d (.mv (.t 96))⟩,
    ⟨some 97, none, .d (.extract (.t 93) 0)⟩,
    ⟨some 98, none, .d (.extract (.t 93) 1)⟩,
    ⟨some 15, none, .d (.mv (.t 97))⟩,
    ⟨some 16, none, .d (.mv (.t 98))⟩])
  (.seq (.reg [⟨some 99, none, .d (.mv (.t 14))⟩,
    ⟨some 100, none, .d (.mv (.t 16))⟩,
    ⟨some 101, none, .d (.bin .bool .neq (.t 99) (.t 100))⟩,
    ⟨some 102, none, .d (.mv (.t 101))⟩,
    ⟨some 103, some (102, false), .d (.mv (.t 14))⟩,
    ⟨some 104, some (102, false), .d (.mv (.t 10))⟩,
    ⟨some 105, some (102, false), .d (.bin .bool .neq (.t 103) (.t 104))⟩,
    ⟨some 106, none, .d (.pick (.t 102) (.c (.bool true)) (.t 105))⟩,
    ⟨some 107, none, .d (.mv (.t 106))⟩,
    ⟨some 108, some (107, false), .d (.mv (.t 13))⟩,
    ⟨some 109, some (107, false), .d (.mv (.t 15))⟩,
    ⟨some 110, some (107, false), .d (.call (.f f_eqIntS) [(.t 108), (.t 109)])⟩,
    ⟨some 111, some (107, false), .d (.not (.t 110))⟩,
    ⟨some 112, none, .d (.pick (.t 107) (.c (.bool true)) (.t 111))⟩])
  (.cond (.t 112) (.seq (.reg [⟨some 2, none, .d (.mv (.c (.bool false)))⟩])
   (.ret)) (.skip))))
  (.seq (.reg [⟨some 114, none, .d (.mv (.t 3))⟩,
    ⟨some 115, none, .d (.call (.f f_NeedOf) [(.t 114)])⟩,
    ⟨some 113, none, .d (.mv (.t 115))⟩,
    ⟨some 116, none, .d (.extract (.t 113) 0)⟩,
    ⟨some 117, none, .d (.extract (.t 113) 1)⟩,
    ⟨some 17, none, .d (.mv (.t 116))⟩,
    ⟨some 18, none, .d (.mv (.t 117))⟩])
  (.seq (.seq (.reg [⟨some 119, none, .d (.mv (.t 3))⟩,
    ⟨some 120, none, .d (.call (.f f_s_NeedOf) [(.t 119)])⟩,
    ⟨some 118, none, .d (.mv (.t 120))⟩,
    ⟨some 121, none, .d (.extract (.t 118) 0)⟩,
    ⟨some 122, none, .d (.extract (.t 118) 1)⟩,
    ⟨some 19, none, .d (.mv (.t 121))⟩,
    ⟨some 20, none, .d (.mv (.t 122))⟩])
  (.seq (.reg [⟨some 123, none, .d (.mv (.t 17))⟩,
    ⟨some 124, none, .d (.mv (.t 19))⟩,
    ⟨some 125, none, .d (.bin .arith .neq (.t 123) (.t 124))⟩,
    ⟨some 126, none, .d (.mv (.t 125))⟩,
    ⟨some 127, some (126, false), .d (.mv (.t 18))⟩,
    ⟨some 128, some (126, false), .d (.mv (.t 20))⟩,
    ⟨some 129, some (126, false), .d (.bin .bool .neq (.t 127) (.t 128))⟩,
    ⟨some 130, none, .d (.pick (.t 126) (.c (.bool true)) (.t 129))⟩,
    ⟨some 131, none, .d (.mv (.t 130))⟩,
    ⟨some 132, some (131, false), .d (.mv (.t 18))⟩,
    ⟨some 133, some (131, false), .d (.mv (.t 3))⟩,
    ⟨some 134, some (131, false), .d (.call (.f f_AreCounts) [(.t 133)])⟩,
    ⟨some 135, some (131, false), .d (.bin .bool .neq (.t 132) (.t 134))⟩,
    ⟨some 136, none, .d (.pick (.t 131) (.c (.bool true)) (.t 135))⟩])
  (.cond (.t 136) (.seq (.reg [⟨some 2, none, .d (.mv (.c (.bool false)))⟩])
   (.ret)) (.skip))))
  (.seq (.reg [⟨some 138, none, .d (.mv (.t 3))⟩,
    ⟨some 139, none, .d (.call (.f f_BestSplit) [(.t 138)])⟩,
    ⟨some 137, none, .d (.mv (.t 139))⟩,
    ⟨some 140, none, .d (.extract (.t 137) 0)⟩,
    ⟨some 141, none, .d (.extract (.t 137) 1)⟩,
    ⟨some 21, none, .d (.mv (.t 140))⟩,
    ⟨some 22, none, .d (.mv (.t 141))⟩])
  (.seq (.seq (.reg [⟨some 143, none, .d (.mv (.t 3))⟩,
    ⟨some 144, none, .d (.call (.f f_s_BestSplit) [(.t 143)])⟩,
    ⟨some 142, none, .d (.mv (.t 144))⟩,
    ⟨some 145, none, .d (.extract (.t 142) 0)⟩,
    ⟨some 146, none, .d (.extract (.t 142) 1)⟩,
    ⟨some 23, none, .d (.mv (.t 145))⟩,
    ⟨some 24, none, .d (.mv (.t 146))⟩])
  (.seq (.reg [⟨some 147, none, .d (.mv (.t 22))⟩,
    ⟨some 148, none, .d (.mv (.t 24))⟩,
    ⟨some 149, none, .d (.bin .bool .neq (.t 147) (.t 148))⟩,
    ⟨some 150, none, .d (.mv (.t 149))⟩,
    ⟨some 151, some (150, false), .d (.mv (.t 21))⟩,
    ⟨some 152, some (150, false), .d (.mv (.t 23))⟩,
    ⟨some 153, some (150, false), .d (.call (.f f_eqIntS) [(.t 151), (.t 152)])⟩,
    ⟨some 154, some (150, false), .d (.not (.t 153))⟩,
    ⟨some 155, none, .d (.pick (.t 150) (.c (.bool true)) (.t 154))⟩])
  (.cond (.t 155) (.seq (.reg [⟨some 2, none, .d (.mv (.c (.bool false)))⟩])
   (.ret)) (.skip))))
  (.seq (.reg [⟨some 157, none, .d (.mv (.t 3))⟩,
    ⟨some 158, none, .d (.call (.f f_CountBestSplits) [(.t 157)])⟩,
    ⟨some 156, none, .d (.mv (.t 158))⟩,
    ⟨some 159, none, .d (.extract (.t 156) 0)⟩,
    ⟨some 160, none, .d (.extract (.t 156) 1)⟩,
    ⟨some 25, none, .d (.mv (.t 159))⟩,
    ⟨some 26, none, .d (.mv (.t 160))⟩])
  (.seq (.seq (.reg [⟨some 162, none, .d (.mv (.t 3))⟩,
    ⟨some 163, none, .d (.call (.f f_s_CountBestSplits) [(.t 162)])⟩,
    ⟨some 161, none, .d (.mv (.t 163))⟩,
    ⟨some 164, none, .d (.extract (.t 161) 0)⟩,
    ⟨some 165, none, .d (.extract (.t 161) 1)⟩,
    ⟨some 27, none, .d (.mv (.t 164))⟩,
    ⟨some 28, none, .d (.mv (.t 165))⟩])
  (.seq (.reg [⟨some 166, none, .d (.mv (.t 25))⟩,
    ⟨some 167, none, .d (.mv (.t 27))⟩,
    ⟨some 168, none, .d (.bin .arith .neq (.t 166) (.t 167))⟩,
    ⟨some 169, none, .d (.mv (.t 168))⟩,
    ⟨some 170, some (169, false), .d (.mv (.t 26))⟩,
    ⟨some 171, some (169, false), .d (.mv (.t 28))⟩,
    ⟨some 172, some (169, false), .d (.bin .bool .neq (.t 170) (.t 171))⟩,
    ⟨some 173, none, .d (.pick (.t 169) (.c (.bool true)) (.t 172))⟩,
    ⟨some 174, none, .d (.mv (.t 173))⟩,
    ⟨some 175, some (174, false), .d (.mv (.t 26))⟩,
    ⟨some 176, some (174, false), .d (.mv (.t 22))⟩,
    ⟨some 177, some (174, false), .d (.bin .bool .neq (.t 175) (.t 176))⟩,
    ⟨some 178, none, .d (.pick (.t 174) (.c (.bool true)) (.t 177))⟩,
    ⟨some 179, none, .d (.mv (.t 178))⟩,
    ⟨some 180, some (179, false), .d (.mv (.t 26))⟩,
    ⟨some 181, some (179, false), .d (.mv (.t 180))⟩,
    ⟨some 182, some (181, true), .d (.mv (.t 25))⟩,
    ⟨some 183, some (181, true), .d (.bin .arith .lss (.t 182) (.c (.int .i64 1)))⟩,
    ⟨some 184, some (179, false), .d (.pick (.t 181) (.t 183) (.c (.bool false)))⟩,
    ⟨some 185, none, .d (.pick (.t 179) (.c (.bool true)) (.t 184))⟩])
  (.cond (.t 185) (.seq (.reg [⟨some 2, none, .d (.mv (.c (.bool false)))⟩])
   (.ret)) (.skip))))
  (.seq (.seq (.reg [⟨some 186, none, .d (.mv (.t 10))⟩])
  (.cond (.t 186) (.seq (.reg [⟨some 187, none, .w (.bslice 1 [] [])⟩,
     ⟨some 29, none, .d (.mv (.t 187))⟩])
   (.seq (.seq (.reg [⟨some 30, none, .d (.mv (.c (.int .i64 0)))⟩])
   (.block 0 (.loop (.seq (.seq (.reg [⟨some 188, none, .d (.mv (.t 30))⟩,
       ⟨some 189, none, .d (.mv (.t 3))⟩,
       ⟨some 190, none, .d (.len (.t 189))⟩,
       ⟨some 191, none, .d (.bin .arith .lss (.t 188) (.t 190))⟩])
     (.cond (.t 191) (.skip) (.exit 0)))
     (.seq (.block 1 (.dreg [204] [([204], ⟨some 194, none, .d (.mv (.t 29))⟩),
        ([204], ⟨some 195, none, .d (.mv (.t 3))⟩),
        ([204], ⟨some 196, none, .d (.mv (.t 30))⟩),
        ([204], ⟨some 197, none, .d (.ia 1 (.t 195) (.t 196))⟩),
        ([204], ⟨some 198, none, .d (.load false 1 (.t 197))⟩),
        ([204], ⟨some 199, none, .d (.mv (.t 4))⟩),
        ([204], ⟨some 200, none, .d (.mv (.t 30))⟩),
        ([204], ⟨some 201, none, .d (.ia 1 (.t 199) (.t 200))⟩),
        ([204], ⟨some 202, none, .d (.load false 1 (.t 201))⟩),
        ([204], ⟨some 203, none, .d (.bin .arith .sub (.t 198) (.t 202))⟩),
        ([], ⟨some 204, none, .w (.bslice 1 [.int .i64 0] [(0, (.t 203))])⟩)] [⟨some 205, none, .w (.append 1 (.t 194) (.t 204))⟩,
        ⟨some 29, none, .d (.mv (.t 205))⟩]))
     (.reg [⟨some 192, none, .d (.mv (.t 30))⟩,
       ⟨some 193, none, .d (.bin .arith .add (.t 192) (.c (.int .i64 1)))⟩,
       ⟨some 30, none, .d (.mv (.t 193))⟩]))))))
   (.seq (.reg [⟨some 207, none, .d (.mv (.t 3))⟩,
     ⟨some 208, none, .d (.mv (.t 29))⟩,
     ⟨some 209, none, .w (.callL (.f f_YesCounts) [(.t 207), (.t 208)] [] 0 true)⟩,
     ⟨some 206, none, .d (.mv (.t 209))⟩,
     ⟨some 210, none, .d (.extract (.t 206) 0)⟩,
     ⟨some 211, none, .d (.extract (.t 206) 1)⟩,
     ⟨some 31, none, .d (.mv (.t 210))⟩,
     ⟨some 32, none, .d (.mv (.t 211))⟩])
   (.seq (.reg [⟨some 212, none, .d (.mv (.t 32))⟩,
     ⟨some 213, none, .d (.not (.t 212))⟩,
     ⟨some 214, none, .d (.mv (.t 213))⟩,
     ⟨some 215, some (214, false), .d (.mv (.t 31))⟩,
     ⟨some 216, some (214, false), .d (.mv (.t 13))⟩,
     ⟨some 217, some (214, false), .d (.call (.f f_eqIntS) [(.t 215), (.t 216)])⟩,
     ⟨some 218, some (214, false), .d (.not (.t 217))⟩,
     ⟨some 219, none, .d (.pick (.t 214) (.c (.bool true)) (.t 218))⟩])
   (.cond (.t 219) (.seq (.reg [⟨some 2, none, .d (.mv (.c (.bool false)))⟩])
    (.ret)) (.skip)))))) (.skip)))
  (.seq (.seq (.reg [⟨some 220, none, .d (.mv (.t 6))⟩])
  (.cond (.t 220) (.seq (.reg [⟨some 222, none, .d (.mv (.t 9))⟩,
     ⟨some 223, none, .d (.call (.f f_NeedOf) [(.t 222)])⟩,
     ⟨some 221, none, .d (.mv (.t 223))⟩,
     ⟨some 224, none, .d (.extract (.t 221) 0)⟩,
     ⟨some 225, none, .d (.extract (.t 221) 1)⟩,
     ⟨some 33, none, .d (.mv (.t 224))⟩,
     ⟨some 34, none, .d (.mv (.t 225))⟩])
   (.seq (.reg [⟨some 227, none, .d (.mv (.t 13))⟩,
     ⟨some 228, none, .d (.call (.f f_NeedOf) [(.t 227)])⟩,
     ⟨some 226, none, .d (.mv (.t 228))⟩,
     ⟨some 229, none, .d (.extract (.t 226) 0)⟩,
     ⟨some 230, none, .d (.extract (.t 226) 1)⟩,
     ⟨some 35, none, .d (.mv (.t 229))⟩,
     ⟨some 36, none, .d (.mv (.t 230))⟩])
   (.seq (.seq (.reg [⟨some 231, none, .d (.mv (.t 35))⟩,
     ⟨some 232, none, .d (.mv (.t 33))⟩,
     ⟨some 233, none, .d (.bin .arith .gtr (.t 231) (.t 232))⟩])
   (.cond (.t 233) (.reg [⟨some 234, none, .d (.mv (.t 35))⟩,
      ⟨some 33, none, .d (.mv (.t 234))⟩]) (.skip)))
   (.seq (.reg [⟨some 235, none, .d (.mv (.t 34))⟩,
     ⟨some 236, none, .d (.not (.t 235))⟩,
     ⟨some 237, none, .d (.mv (.t 236))⟩,
     ⟨some 238, some (237, false), .d (.mv (.t 36))⟩,
     ⟨some 239, some (237, false), .d (.not (.t 238))⟩,
     ⟨some 240, none, .d (.pick (.t 237) (.c (.bool true)) (.t 239))⟩,
     ⟨some 241, none, .d (.mv (.t 240))⟩,
     ⟨some 242, some (241, false), .d (.mv (.t 5))⟩,
     ⟨some 243, some (241, false), .d (.mv (.t 33))⟩,
     ⟨some 244, some (241, false), .d (.bin .arith .add (.t 243) (.c (.int .i64 1)))⟩,
     ⟨some 245, some (241, false), .d (.bin .arith .neq (.t 242) (.t 244))⟩,
     ⟨some 246, none, .d (.pick (.t 241) (.c (.bool true)) (.t 245))⟩,
     ⟨some 247, none, .d (.mv (.t 246))⟩,
     ⟨some 248, some (247, false), .d (.mv (.t 5))⟩,
     ⟨some 249, some (247, false), .d (.mv (.t 17))⟩,
     ⟨some 250, some (247, false), .d (.bin .arith .lss (.t 248) (.t 249))⟩,
     ⟨some 251, none, .d (.pick (.t 247) (.c (.bool true)) (.t 250))⟩])
   (.cond (.t 251) (.seq (.reg [⟨some 2, none, .d (.mv (.c (.bool false)))⟩])
    (.ret)) (.skip)))))) (.skip)))
  (.seq (.seq (.reg [⟨some 252, none, .d (.mv (.t 22))⟩,
    ⟨some 253, none, .d (.not (.t 252))⟩])
  (.cond (.t 253) (.seq (.reg [⟨some 2, none, .d (.mv (.c (.bool true)))⟩])
   (.ret)) (.skip)))
  (.seq (.reg [⟨some 255, none, .d (.mv (.t 3))⟩,
    ⟨some 256, none, .d (.mv (.t 21))⟩,
    ⟨some 257, none, .d (.call (.f f_SplitNeed) [(.t 255), (.t 256)])⟩,
    ⟨some 254, none, .d (.mv (.t 257))⟩,
    ⟨some 258, none, .d (.extract (.t 254) 0)⟩,
    ⟨some 259, none, .d (.extract (.t 254) 1)⟩,
    ⟨some 37, none, .d (.mv (.t 258))⟩,
    ⟨some 38, none, .d (.mv (.t 259))⟩])
  (.seq (.reg [⟨some 260, none, .d (.mv (.t 38))⟩,
    ⟨some 261, none, .d (.mv (.t 260))⟩,
    ⟨some 262, some (261, true), .d (.mv (.t 37))⟩,
    ⟨some 263, some (261, true), .d (.mv (.t 17))⟩,
    ⟨some 264, some (261, true), .d (.bin .arith .eql (.t 262) (.t 263))⟩,
    ⟨some 265, none, .d (.pick (.t 261) (.t 264) (.c (.bool false)))⟩,
    ⟨some 2, none, .d (.mv (.t 265))⟩])
  (.ret)))))))))))))))))))), [.tmp 2]⟩
def n_x_Needs : Nat → Option Ann := fun d => if d = 209 then some ⟨[], 0, true⟩ else none
abbrev k_x_Needs : List Nat := [0, 2, 3, 4, 5, 6, 7, 8, 9, 10, 11, 12, 13, 14, 15, 16, 17, 18, 19, 20, 21, 22, 23, 24, 25, 26, 27, 28, 29, 30, 31, 32, 33, 34, 35, 36, 37, 38, 40, 65, 86, 112, 136, 155, 185, 186, 191, 219, 220, 233, 251, 253]
abbrev o_x_Needs : List Nat := [187, 204, 205]
def c_x_Needs : Con := pure' fun
  | [.p v] => match slU v with
    | some l => if l.length ≤ 9223372036854775807 then some (.p (.bool true), []) else none
    | none => none
  | _ => none
set_option maxHeartbeats 8000000 in
set_option maxRecDepth 100000 in
theorem s_x_Needs {P : Program} (hm : P.follows .mixedOrders = true) {Γ : Gam} (hΓ : GS P Γ) {n : FuncId} {f_rBig : FuncId} {f_DrawSplitNeed : FuncId} {f_SplitNeed : FuncId} {f_s_SplitNeed : FuncId} {f_YesCounts : FuncId} {f_s_YesCounts : FuncId} {f_eqIntS : FuncId} {f_NoCounts : FuncId} {f_s_NoCounts : FuncId} {f_NeedOf : FuncId} {f_s_NeedOf : FuncId} {f_AreCounts : FuncId} {f_BestSplit : FuncId} {f_s_BestSplit : FuncId} {f_CountBestSplits : FuncId} {f_s_CountBestSplits : FuncId} (is : Is P n (a_x_Needs f_rBig f_DrawSplitNeed f_SplitNeed f_s_SplitNeed f_YesCounts f_s_YesCounts f_eqIntS f_NoCounts f_s_NoCounts f_NeedOf f_s_NeedOf f_AreCounts f_BestSplit f_s_BestSplit f_CountBestSplits f_s_CountBestSplits)) (h_rBig : Γ f_rBig = c_rBig) (h_DrawSplitNeed : Γ f_DrawSplitNeed = c_DrawSplitNeed) (h_SplitNeed : Γ f_SplitNeed = c_SplitNeed) (h_s_SplitNeed : Γ f_s_SplitNeed = c_SplitNeed) (h_YesCounts : Γ f_YesCounts = c_YesCounts) (h_s_YesCounts : Γ f_s_YesCounts = c_s_YesCounts) (h_eqIntS : Γ f_eqIntS = c_eqIntS) (h_NoCounts : Γ f_NoCounts = c_NoCounts) (h_s_NoCounts : Γ f_s_NoCounts = c_s_NoCounts) (h_NeedOf : Γ f_NeedOf = c_NeedOf) (h_s_NeedOf : Γ f_s_NeedOf = c_NeedOf) (h_AreCounts : Γ f_AreCounts = c_AreCounts) (h_BestSplit : Γ f_BestSplit = c_BestSplit) (h_s_BestSplit : Γ f_s_BestSplit = c_s_BestSplit) (h_CountBestSplits : Γ f_CountBestSplits = c_CountBestSplits) (h_s_CountBestSplits : Γ f_s_CountBestSplits = c_CountBestSplits)  : Says P n c_x_Needs := by
  refine Says.pure fun args r fs h => ?_
  split at h
  case h_2 => cases h
  rename_i v
  split at h
  case h_2 => cases h
  rename_i l hv
  split at h
  case isFalse => cases h
  rename_i hc
  simp only [Option.some.injEq, Prod.mk.injEq] at h
  obtain ⟨rfl, rfl⟩ := h
  by_cases hk : l.length > 65536
  · refine is.go hm hΓ k_x_Needs o_x_Needs (by simp [a_x_Needs]) ?_
    simp only [a_x_Needs, h_rBig, c_rBig, h_DrawSplitNeed, c_DrawSplitNeed, h_SplitNeed, c_SplitNeed, h_s_SplitNeed, c_SplitNeed, h_YesCounts, c_YesCounts, h_s_YesCounts, c_s_YesCounts, h_eqIntS, c_eqIntS, h_NoCounts, c_NoCounts, h_s_NoCounts, c_s_NoCounts, h_NeedOf, c_NeedOf, h_s_NeedOf, c_NeedOf, h_AreCounts, c_AreCounts, h_BestSplit, c_BestSplit, h_s_BestSplit, c_s_BestSplit, h_CountBestSplits, c_CountBestSplits, h_s_CountBestSplits, c_CountBestSplits, hv, hk, List.zipIdx_cons, List.zipIdx_nil, ↓SP, SQ, Gam.add, stepM, callC, argC, lendO, nmBy, nmC, likeL, likeB, plainOb, offs, exL, X, F, trP, trO, stepD, stepW, newA, SV.tr, SV.trL, fz, allP, Ob.tr, loadA, cellsA, SV.cells, binA, binI, eqOut, isSl, isPt, natOf, callee, snap, SV.refsL, SV.refs, thaw, fzAll, loA, hiA, elemOf, partsA, buildA, putCells, ↓reduceIte, reduceCtorEq, okCell, Nat.reduceAdd, Nat.reduceEqDiff, Nat.reduceSub, Nat.reduceMul, Nat.reduceLeDiff, Nat.reduceLT, Nat.reduceBEq, PV.scal, PV.scalL, SV.scal, SV.scalL, Ob.scal, PV.isCell, pure', resO]
    exact finA_val (by simp [retA, rvA, mkE_cons, mk_nil, mkO_cons, mkO_nil, loadA, SV.tr, SV.trL, nmF, rn_nil, rn_cons1, rn_cons2, plainOb, SV.refsL, SV.refs, Ob.refs, X, F, List.range_succ, mkO, setO_mk]) (by simp [SV.tr, SV.trL])
  have hl := (slU_out hv).2
  obtain ⟨b1, b2, b3⟩ := cnR_b hl (cu0 0 (by omega))
  obtain ⟨b4, b5⟩ := spR_b hl b2 _ b3
  have q0 : (cnR l (0, 0)).1.length ≤ 1100000 := by omega
  have q1 : (spR l (cnR l (0, 0)).1 (cnR l (0, 0)).2).1.length ≤ 1100000 := by omega
  generalize hcc : (cnR l (0, 0)).1 = c at *
  generalize hss : (spR l c (cnR l (0, 0)).2).1 = s at *
  have z0 : ([] : List Int).length ≤ 1100000 := by simp
  cases h1 : okC c with
  | false =>
    have hok : snOK c s = false := by simp only [snOK, h1, Bool.false_and]
    refine is.go hm hΓ k_x_Needs o_x_Needs (by simp [a_x_Needs]) ?_
    simp only [a_x_Needs, h_rBig, c_rBig, h_DrawSplitNeed, c_DrawSplitNeed, h_SplitNeed, c_SplitNeed, h_s_SplitNeed, c_SplitNeed, h_YesCounts, c_YesCounts, h_s_YesCounts, c_s_YesCounts, h_eqIntS, c_eqIntS, h_NoCounts, c_NoCounts, h_s_NoCounts, c_s_NoCounts, h_NeedOf, c_NeedOf, h_s_NeedOf, c_NeedOf, h_AreCounts, c_AreCounts, h_BestSplit, c_BestSplit, h_s_BestSplit, c_s_BestSplit, h_CountBestSplits, c_CountBestSplits, h_s_CountBestSplits, c_CountBestSplits, hv, hk, hcc, hss, q0, q1, z0, h1, hok, slI_nil, slI_e, slI_sl, Bool.false_and, Bool.false_eq_true, bne_self_eq_false, List.zipIdx_cons, List.zipIdx_nil, ↓SP, SQ, Gam.add, stepM, callC, argC, lendO, nmBy, nmC, likeL, likeB, plainOb, offs, exL, X, F, trP, trO, stepD, stepW, newA, SV.tr, SV.trL, fz, allP, Ob.tr, loadA, cellsA, SV.cells, binA, binI, eqOut, isSl, isPt, natOf, callee, snap, SV.refsL, SV.refs, thaw, fzAll, loA, hiA, elemOf, partsA, buildA, putCells, ↓reduceIte, reduceCtorEq, okCell, Nat.reduceAdd, Nat.reduceEqDiff, Nat.reduceSub, Nat.reduceMul, Nat.reduceLeDiff, Nat.reduceLT, Nat.reduceBEq, PV.scal, PV.scalL, SV.scal, SV.scalL, Ob.scal, PV.isCell, pure', resO]
    exact finA_val (by simp [retA, rvA, mkE_cons, mk_nil, mkO_cons, mkO_nil, loadA, SV.tr, SV.trL, nmF, rn_nil, rn_cons1, rn_cons2, plainOb, SV.refsL, SV.refs, Ob.refs, X, F, List.range_succ, mkO, setO_mk]) (by simp [SV.tr, SV.trL])
  | true =>
    cases h2 : okSp c s with
    | false =>
      have hok : snOK c s = false := by simp only [snOK, h2, Bool.and_false, Bool.false_and]
      cases h3 : told c with
      | true =>
        refine is.go hm hΓ k_x_Needs o_x_Needs (by simp [a_x_Needs]) ?_
        simp only [a_x_Needs, h_rBig, c_rBig, h_DrawSplitNeed, c_DrawSplitNeed, h_SplitNeed, c_SplitNeed, h_s_SplitNeed, c_SplitNeed, h_YesCounts, c_YesCounts, h_s_YesCounts, c_s_YesCounts, h_eqIntS, c_eqIntS, h_NoCounts, c_NoCounts, h_s_NoCounts, c_s_NoCounts, h_NeedOf, c_NeedOf, h_s_NeedOf, c_NeedOf, h_AreCounts, c_AreCounts, h_BestSplit, c_BestSplit, h_s_BestSplit, c_s_BestSplit, h_CountBestSplits, c_CountBestSplits, h_s_CountBestSplits, c_CountBestSplits, hv, hk, hcc, hss, q0, q1, z0, h1, h2, h3, hok, slI_nil, slI_e, slI_sl, Bool.and_false, Bool.false_and, Bool.true_and, Bool.not_true, Bool.false_eq_true, bne_self_eq_false, List.zipIdx_cons, List.zipIdx_nil, ↓SP, SQ, Gam.add, stepM, callC, argC, lendO, nmBy, nmC, likeL, likeB, plainOb, offs, exL, X, F, trP, trO, stepD, stepW, newA, SV.tr, SV.trL, fz, allP, Ob.tr, loadA, cellsA, SV.cells, binA, binI, eqOut, isSl, isPt, natOf, callee, snap, SV.refsL, SV.refs, thaw, fzAll, loA, hiA, elemOf, partsA, buildA, putCells, ↓reduceIte, reduceCtorEq, okCell, Nat.reduceAdd, Nat.reduceEqDiff, Nat.reduceSub, Nat.reduceMul, Nat.reduceLeDiff, Nat.reduceLT, Nat.reduceBEq, PV.scal, PV.scalL, SV.scal, SV.scalL, Ob.scal, PV.isCell, pure', resO]
        exact finA_val (by simp [retA, rvA, mkE_cons, mk_nil, mkO_cons, mkO_nil, loadA, SV.tr, SV.trL, nmF, rn_nil, rn_cons1, rn_cons2, plainOb, SV.refsL, SV.refs, Ob.refs, X, F, List.range_succ, mkO, setO_mk]) (by simp [SV.tr, SV.trL])
      | false =>
        have hB := HB.of h1 h3
        have hll : (hdB c).length ≤ 1100000 := by have := spl_len hB.mem; omega
        obtain ⟨_, h8, _⟩ := okC_out h1
        have ho2 : snOK c (hdB c) = true := by rw [snOK_eq h1 h3 (spl_okSp h8 hB.mem), hB.back]; rfl
        have hbe := hB.best
        have hln : ¬ ((beS true c).length : Int) < 1 := by have := hB.len; omega
        refine is.go hm hΓ k_x_Needs o_x_Needs (by simp [a_x_Needs]) ?_
        simp only [a_x_Needs, h_rBig, c_rBig, h_DrawSplitNeed, c_DrawSplitNeed, h_SplitNeed, c_SplitNeed, h_s_SplitNeed, c_SplitNeed, h_YesCounts, c_YesCounts, h_s_YesCounts, c_s_YesCounts, h_eqIntS, c_eqIntS, h_NoCounts, c_NoCounts, h_s_NoCounts, c_s_NoCounts, h_NeedOf, c_NeedOf, h_s_NeedOf, c_NeedOf, h_AreCounts, c_AreCounts, h_BestSplit, c_BestSplit, h_s_BestSplit, c_s_BestSplit, h_CountBestSplits, c_CountBestSplits, h_s_CountBestSplits, c_CountBestSplits, hv, hk, hcc, hss, q0, q1, z0, h1, h2, h3, hok, hll, ho2, hbe, hln, slI_nil, slI_e, slI_sl, Bool.and_false, Bool.false_and, Bool.true_and, Bool.not_false, Bool.false_eq_true, bne_self_eq_false, List.zipIdx_cons, List.zipIdx_nil, ↓SP, SQ, Gam.add, stepM, callC, argC, lendO, nmBy, nmC, likeL, likeB, plainOb, offs, exL, X, F, trP, trO, stepD, stepW, newA, SV.tr, SV.trL, fz, allP, Ob.tr, loadA, cellsA, SV.cells, binA, binI, eqOut, isSl, isPt, natOf, callee, snap, SV.refsL, SV.refs, thaw, fzAll, loA, hiA, elemOf, partsA, buildA, putCells, ↓reduceIte, reduceCtorEq, okCell, Nat.reduceAdd, Nat.reduceEqDiff, Nat.reduceSub, Nat.reduceMul, Nat.reduceLeDiff, Nat.reduceLT, Nat.reduceBEq, PV.scal, PV.scalL, SV.scal, SV.scalL, Ob.scal, PV.isCell, pure', resO]
        exact finA_val (by simp [retA, rvA, mkE_cons, mk_nil, mkO_cons, mkO_nil, loadA, SV.tr, SV.trL, nmF, rn_nil, rn_cons1, rn_cons2, plainOb, SV.refsL, SV.refs, Ob.refs, X, F, List.range_succ, mkO, setO_mk]) (by simp [SV.tr, SV.trL])
    | true =>
      obtain ⟨g1, g2, g3, g4⟩ := okCS h1 h2
      have hrl : (restL c s).length = c.length := by rw [restL_len, g2]
      have hro := rest_okSp h2
      have hyr := yes_rest g2
      have y0 : (yesL c s).length ≤ 1100000 := by rw [yesL_len]; exact q1
      have n0 : (noL c s).length ≤ 1100000 := by rw [noL_len]; exact q1
      have hsb : ∀ j, j < c.length → -100 ≤ c.getD j 0 - s.getD j 0 ∧ c.getD j 0 - s.getD j 0 ≤ 100 := fun j hj => by
        obtain ⟨_, h8, _⟩ := okC_out h1
        have a1 := in8_get h8 j
        have a2 := in8_get (okSp_in8 h8 h2) j
        omega
      cases h3 : told c with
      | true =>
        have hok : snOK c s = false := by simp only [snOK, h3, Bool.not_true, Bool.and_false, Bool.false_and]
        refine is.go hm hΓ k_x_Needs o_x_Needs (by simp [a_x_Needs]) ?_
        simp only [a_x_Needs, h_rBig, c_rBig, h_DrawSplitNeed, c_DrawSplitNeed, h_SplitNeed, c_SplitNeed, h_s_SplitNeed, c_SplitNeed, h_YesCounts, c_YesCounts, h_s_YesCounts, c_s_YesCounts, h_eqIntS, c_eqIntS, h_NoCounts, c_NoCounts, h_s_NoCounts, c_s_NoCounts, h_NeedOf, c_NeedOf, h_s_NeedOf, c_NeedOf, h_AreCounts, c_AreCounts, h_BestSplit, c_BestSplit, h_s_BestSplit, c_s_BestSplit, h_CountBestSplits, c_CountBestSplits, h_s_CountBestSplits, c_CountBestSplits, hv, hk, hcc, hss, q0, q1, z0, y0, n0, h1, h2, h3, hok, slI_nil, slI_e, slI_sl, Bool.and_false, Bool.false_and, Bool.true_and, Bool.not_true, Bool.not_false, Bool.false_eq_true, bne_self_eq_false, List.zipIdx_cons, List.zipIdx_nil, ↓SP, SQ, Gam.add, stepM, callC, argC, lendO, nmBy, nmC, likeL, likeB, plainOb, offs, exL, X, F, trP, trO, stepD, stepW, newA, SV.tr, SV.trL, fz, allP, Ob.tr, loadA, cellsA, SV.cells, binA, binI, eqOut, isSl, isPt, natOf, callee, snap, SV.refsL, SV.refs, thaw, fzAll, loA, hiA, elemOf, partsA, buildA, putCells, ↓reduceIte, reduceCtorEq, okCell, Nat.reduceAdd, Nat.reduceEqDiff, Nat.reduceSub, Nat.reduceMul, Nat.reduceLeDiff, Nat.reduceLT, Nat.reduceBEq, PV.scal, PV.scalL, SV.scal, SV.scalL, Ob.scal, PV.isCell, pure', resO]
        refine loop_at (fun st : Nat × SV × Option Ob => mkEnv [(0, .p v), (2, sb false), (3, .p (.sl 1 (ints c))), (4, .p (.sl 1 (ints s))), (5, si 0), (6, sb false), (7, si 0), (8, sb false), (9, .p (.sl 1 (ints (yesL c s)))), (10, sb true), (11, .p (.sl 1 (ints (yesL c s)))), (12, sb true), (13, .p (.sl 1 (ints (noL c s)))), (14, sb true), (15, .p (.sl 1 (ints (noL c s)))), (16, sb true), (17, si (ndI true c)), (18, sb true), (19, si (ndI true c)), (20, sb true), (21, .p .nilsl), (22, sb false), (23, .p (.sl 1 [])), (24, sb false), (25, si 0), (26, sb false), (27, si 0), (28, sb false), (29, .ar 187), (30, si st.1), (31, .junk), (32, .junk), (33, .junk), (34, .junk), (35, .junk), (36, .junk), (37, .junk), (38, .junk), (40, sb false), (65, sb false), (86, sb false), (112, sb false), (136, sb false), (155, sb false), (185, sb false), (186, sb true), (191, st.2.1), (219, .junk), (220, .junk), (233, .junk), (251, .junk), (253, .junk)]) (fun st => mkO [(187, some (.arr 1 (ints ((restL c s).take st.1)))), (204, st.2.2), (205, none)]) (fun st => st.1 ≤ c.length) (fun st => c.length - st.1) (0, .junk, none) (by simp) rfl rfl ?_
        rintro ⟨j, x1, o1⟩ hj R hR hN
        simp only at hj
        by_cases h : j < c.length
        · have hlt : (j : Int) < c.length := by omega
          have hjs : j < s.length := by omega
          have hgc := ints_get h
          have hgs := ints_get hjs
          have hw1 : IntKind.i64.wrap ((j : Int) + 1) = ((j + 1 : Nat) : Int) := wrap_one (by omega)
          have hrg : (restL c s).getD j 0 = c.getD j 0 - s.getD j 0 := restL_get hjs
          have hbb := hsb j h
          have hw2 : IntKind.i64.wrap (c.getD j 0 - s.getD j 0) = (restL c s).getD j 0 := by rw [hrg]; exact wrap64 (by omega) (by omega)
          have hap : ints ((restL c s).take j) ++ [.int .i64 ((restL c s).getD j 0)] = ints ((restL c s).take (j + 1)) := by rw [ints_app1, ← take_one (restL c s) j 0 (by omega)]
          have hln : ((restL c s).take j).length + 1 ≤ roomA := by rw [List.length_take]; exact Nat.le_trans (by omega) (by decide : 100 ≤ roomA)
          simp only [hlt, h, hjs, hgc, hgs, hw1, hw2, hap, hln, ↓SP, SQ, Gam.add, stepM, callC, argC, lendO, nmBy, nmC, likeL, likeB, plainOb, offs, exL, X, F, trP, trO, stepD, stepW, newA, SV.tr, SV.trL, fz, allP, Ob.tr, loadA, cellsA, SV.cells, binA, binI, eqOut, isSl, isPt, natOf, callee, snap, SV.refsL, SV.refs, thaw, fzAll, loA, hiA, elemOf, partsA, buildA, putCells, ↓reduceIte, reduceCtorEq, okCell, Nat.reduceAdd, Nat.reduceEqDiff, Nat.reduceSub, Nat.reduceMul, Nat.reduceLeDiff, Nat.reduceLT, Nat.reduceBEq, PV.scal, PV.scalL, SV.scal, SV.scalL, Ob.scal, PV.isCell, pure', resO]
          exact hN (j + 1, _, _) _ _ (by simp only; omega) (by simp only; omega) rfl rfl
        · have he : j = c.length := by omega
          subst he
          have hlt : ¬ (c.length : Int) < c.length := by omega
          have htk : (restL c s).take c.length = restL c s := by rw [← hrl, List.take_length]
          simp only [hlt, htk, ↓SP, SQ, Gam.add, stepM, callC, argC, lendO, nmBy, nmC, likeL, likeB, plainOb, offs, exL, X, F, trP, trO, stepD, stepW, newA, SV.tr, SV.trL, fz, allP, Ob.tr, loadA, cellsA, SV.cells, binA, binI, eqOut, isSl, isPt, natOf, callee, snap, SV.refsL, SV.refs, thaw, fzAll, loA, hiA, elemOf, partsA, buildA, putCells, ↓reduceIte, reduceCtorEq, okCell, Nat.reduceAdd, Nat.reduceEqDiff, Nat.reduceSub, Nat.reduceMul, Nat.reduceLeDiff, Nat.reduceLT, Nat.reduceBEq, PV.scal, PV.scalL, SV.scal, SV.scalL, Ob.scal, PV.isCell, pure', resO]
          refine hR _ _ _ (by intro h; cases h) ?_
          simp only [h_YesCounts, c_YesCounts, h_eqIntS, c_eqIntS, h_NeedOf, c_NeedOf, h_SplitNeed, c_SplitNeed, q0, hrl, h1, hro, hyr, n0, y0, slI_sl, isI_ints, ofI_ints, ints_len, Bool.and_self, Bool.not_true, Bool.not_false, Bool.false_eq_true, ↓SP, SQ, Gam.add, stepM, callC, argC, lendO, nmBy, nmC, likeL, likeB, plainOb, offs, exL, X, F, trP, trO, stepD, stepW, newA, SV.tr, SV.trL, fz, allP, Ob.tr, loadA, cellsA, SV.cells, binA, binI, eqOut, isSl, isPt, natOf, callee, snap, SV.refsL, SV.refs, thaw, fzAll, loA, hiA, elemOf, partsA, buildA, putCells, ↓reduceIte, reduceCtorEq, okCell, Nat.reduceAdd, Nat.reduceEqDiff, Nat.reduceSub, Nat.reduceMul, Nat.reduceLeDiff, Nat.reduceLT, Nat.reduceBEq, PV.scal, PV.scalL, SV.scal, SV.scalL, Ob.scal, PV.isCell, pure', resO]
          exact finA_val (by simp [retA, rvA, mkE_cons, mk_nil, mkO_cons, mkO_nil, loadA, SV.tr, SV.trL, nmF, rn_nil, rn_cons1, rn_cons2, plainOb, SV.refsL, SV.refs, Ob.refs, X, F, List.range_succ, mkO, setO_mk]) (by simp [SV.tr, SV.trL])
      | false =>
        have hB := HB.of h1 h3
        have hll : (hdB c).length ≤ 1100000 := by have := spl_len hB.mem; omega
        obtain ⟨_, h8, _⟩ := okC_out h1
        have ho2 : snOK c (hdB c) = true := by rw [snOK_eq h1 h3 (spl_okSp h8 hB.mem), hB.back]; rfl
        have hbe := hB.best
        have hln : ¬ ((beS true c).length : Int) < 1 := by have := hB.len; omega
        have hsm := mem_spl h2
        have hso := snOK_eq h1 h3 h2
        cases hbk : backB c s with
        | true =>
          rw [hbk] at hso
          have hok : snOK c s = false := hso
          refine is.go hm hΓ k_x_Needs o_x_Needs (by simp [a_x_Needs]) ?_
          simp only [a_x_Needs, h_rBig, c_rBig, h_DrawSplitNeed, c_DrawSplitNeed, h_SplitNeed, c_SplitNeed, h_s_SplitNeed, c_SplitNeed, h_YesCounts, c_YesCounts, h_s_YesCounts, c_s_YesCounts, h_eqIntS, c_eqIntS, h_NoCounts, c_NoCounts, h_s_NoCounts, c_s_NoCounts, h_NeedOf, c_NeedOf, h_s_NeedOf, c_NeedOf, h_AreCounts, c_AreCounts, h_BestSplit, c_BestSplit, h_s_BestSplit, c_s_BestSplit, h_CountBestSplits, c_CountBestSplits, h_s_CountBestSplits, c_CountBestSplits, hv, hk, hcc, hss, q0, q1, z0, y0, n0, h1, h2, h3, hok, slI_nil, slI_e, slI_sl, Bool.and_false, Bool.false_and, Bool.true_and, Bool.not_true, Bool.not_false, Bool.false_eq_true, bne_self_eq_false, hll, ho2, hbe, hln, List.zipIdx_cons, List.zipIdx_nil, ↓SP, SQ, Gam.add, stepM, callC, argC, lendO, nmBy, nmC, likeL, likeB, plainOb, offs, exL, X, F, trP, trO, stepD, stepW, newA, SV.tr, SV.trL, fz, allP, Ob.tr, loadA, cellsA, SV.cells, binA, binI, eqOut, isSl, isPt, natOf, callee, snap, SV.refsL, SV.refs, thaw, fzAll, loA, hiA, elemOf, partsA, buildA, putCells, ↓reduceIte, reduceCtorEq, okCell, Nat.reduceAdd, Nat.reduceEqDiff, Nat.reduceSub, Nat.reduceMul, Nat.reduceLeDiff, Nat.reduceLT, Nat.reduceBEq, PV.scal, PV.scalL, SV.scal, SV.scalL, Ob.scal, PV.isCell, pure', resO]
          refine loop_at (fun st : Nat × SV × Option Ob => mkEnv [(0, .p v), (2, sb false), (3, .p (.sl 1 (ints c))), (4, .p (.sl 1 (ints s))), (5, si 0), (6, sb false), (7, si 0), (8, sb false), (9, .p (.sl 1 (ints (yesL c s)))), (10, sb true), (11, .p (.sl 1 (ints (yesL c s)))), (12, sb true), (13, .p (.sl 1 (ints (noL c s)))), (14, sb true), (15, .p (.sl 1 (ints (noL c s)))), (16, sb true), (17, si (ndI true c)), (18, sb true), (19, si (ndI true c)), (20, sb true), (21, .p (.sl 1 (ints (hdB c)))), (22, sb true), (23, .p (.sl 1 (ints (hdB c)))), (24, sb true), (25, si ((beS true c).length : Int)), (26, sb true), (27, si ((beS true c).length : Int)), (28, sb true), (29, .ar 187), (30, si st.1), (31, .junk), (32, .junk), (33, .junk), (34, .junk), (35, .junk), (36, .junk), (37, .junk), (38, .junk), (40, sb false), (65, sb false), (86, sb false), (112, sb false), (136, sb false), (155, sb false), (185, sb false), (186, sb true), (191, st.2.1), (219, .junk), (220, .junk), (233, .junk), (251, .junk), (253, .junk)]) (fun st => mkO [(187, some (.arr 1 (ints ((restL c s).take st.1)))), (204, st.2.2), (205, none)]) (fun st => st.1 ≤ c.length) (fun st => c.length - st.1) (0, .junk, none) (by simp) rfl rfl ?_
          rintro ⟨j, x1, o1⟩ hj R hR hN
          simp only at hj
          by_cases h : j < c.length
          · have hlt : (j : Int) < c.length := by omega
            have hjs : j < s.length := by omega
            have hgc := ints_get h
            have hgs := ints_get hjs
            have hw1 : IntKind.i64.wrap ((j : Int) + 1) = ((j + 1 : Nat) : Int) := wrap_one (by omega)
            have hrg : (restL c s).getD j 0 = c.getD j 0 - s.getD j 0 := restL_get hjs
            have hbb := hsb j h
            have hw2 : IntKind.i64.wrap (c.getD j 0 - s.getD j 0) = (restL c s).getD j 0 := by rw [hrg]; exact wrap64 (by omega) (by omega)
            have hap : ints ((restL c s).take j) ++ [.int .i64 ((restL c s).getD j 0)] = ints ((restL c s).take (j + 1)) := by rw [ints_app1, ← take_one (restL c s) j 0 (by omega)]
            have hln : ((restL c s).take j).length + 1 ≤ roomA := by rw [List.length_take]; exact Nat.le_trans (by omega) (by decide : 100 ≤ roomA)
            simp only [hlt, h, hjs, hgc, hgs, hw1, hw2, hap, hln, ↓SP, SQ, Gam.add, stepM, callC, argC, lendO, nmBy, nmC, likeL, likeB, plainOb, offs, exL, X, F, trP, trO, stepD, stepW, newA, SV.tr, SV.trL, fz, allP, Ob.tr, loadA, cellsA, SV.cells, binA, binI, eqOut, isSl, isPt, natOf, callee, snap, SV.refsL, SV.refs, thaw, fzAll, loA, hiA, elemOf, partsA, buildA, putCells, ↓reduceIte, reduceCtorEq, okCell, Nat.reduceAdd, Nat.reduceEqDiff, Nat.reduceSub, Nat.reduceMul, Nat.reduceLeDiff, Nat.reduceLT, Nat.reduceBEq, PV.scal, PV.scalL, SV.scal, SV.scalL, Ob.scal, PV.isCell, pure', resO]
            exact hN (j + 1, _, _) _ _ (by simp only; omega) (by simp only; omega) rfl rfl
          · have he : j = c.length := by omega
            subst he
            have hlt : ¬ (c.length : Int) < c.length := by omega
            have htk : (restL c s).take c.length = restL c s := by rw [← hrl, List.take_length]
            simp only [hlt, htk, ↓SP, SQ, Gam.add, stepM, callC, argC, lendO, nmBy, nmC, likeL, likeB, plainOb, offs, exL, X, F, trP, trO, stepD, stepW, newA, SV.tr, SV.trL, fz, allP, Ob.tr, loadA, cellsA, SV.cells, binA, binI, eqOut, isSl, isPt, natOf, callee, snap, SV.refsL, SV.refs, thaw, fzAll, loA, hiA, elemOf, partsA, buildA, putCells, ↓reduceIte, reduceCtorEq, okCell, Nat.reduceAdd, Nat.reduceEqDiff, Nat.reduceSub, Nat.reduceMul, Nat.reduceLeDiff, Nat.reduceLT, Nat.reduceBEq, PV.scal, PV.scalL, SV.scal, SV.scalL, Ob.scal, PV.isCell, pure', resO]
            refine hR _ _ _ (by intro h; cases h) ?_
            simp only [h_YesCounts, c_YesCounts, h_eqIntS, c_eqIntS, h_NeedOf, c_NeedOf, h_SplitNeed, c_SplitNeed, q0, hrl, h1, hro, hyr, n0, y0, slI_sl, isI_ints, ofI_ints, ints_len, Bool.and_self, hll, ho2, hbe, Bool.not_true, Bool.not_false, Bool.false_eq_true, beq_self_eq_true, ↓SP, SQ, Gam.add, stepM, callC, argC, lendO, nmBy, nmC, likeL, likeB, plainOb, offs, exL, X, F, trP, trO, stepD, stepW, newA, SV.tr, SV.trL, fz, allP, Ob.tr, loadA, cellsA, SV.cells, binA, binI, eqOut, isSl, isPt, natOf, callee, snap, SV.refsL, SV.refs, thaw, fzAll, loA, hiA, elemOf, partsA, buildA, putCells, ↓reduceIte, reduceCtorEq, okCell, Nat.reduceAdd, Nat.reduceEqDiff, Nat.reduceSub, Nat.reduceMul, Nat.reduceLeDiff, Nat.reduceLT, Nat.reduceBEq, PV.scal, PV.scalL, SV.scal, SV.scalL, Ob.scal, PV.isCell, pure', resO]
            exact finA_val (by simp [retA, rvA, mkE_cons, mk_nil, mkO_cons, mkO_nil, loadA, SV.tr, SV.trL, nmF, rn_nil, rn_cons1, rn_cons2, plainOb, SV.refsL, SV.refs, Ob.refs, X, F, List.range_succ, mkO, setO_mk]) (by simp [SV.tr, SV.trL])
        | false =>
          rw [hbk] at hso
          have hok : snOK c s = true := hso
          obtain ⟨oy, on⟩ := sp_okC h1 h3 hsm
          have hge := sn_ge h1 h3 hsm
          have hge2 : ¬ snV c s < ndI true c := by omega
          have by1 := ndI_bd true oy
          have bn1 := ndI_bd true on
          refine is.go hm hΓ k_x_Needs o_x_Needs (by simp [a_x_Needs]) ?_
          simp only [a_x_Needs, h_rBig, c_rBig, h_DrawSplitNeed, c_DrawSplitNeed, h_SplitNeed, c_SplitNeed, h_s_SplitNeed, c_SplitNeed, h_YesCounts, c_YesCounts, h_s_YesCounts, c_s_YesCounts, h_eqIntS, c_eqIntS, h_NoCounts, c_NoCounts, h_s_NoCounts, c_s_NoCounts, h_NeedOf, c_NeedOf, h_s_NeedOf, c_NeedOf, h_AreCounts, c_AreCounts, h_BestSplit, c_BestSplit, h_s_BestSplit, c_s_BestSplit, h_CountBestSplits, c_CountBestSplits, h_s_CountBestSplits, c_CountBestSplits, hv, hk, hcc, hss, q0, q1, z0, y0, n0, h1, h2, h3, hok, slI_nil, slI_e, slI_sl, Bool.and_false, Bool.false_and, Bool.true_and, Bool.not_true, Bool.not_false, Bool.false_eq_true, bne_self_eq_false, hll, ho2, hbe, hln, List.zipIdx_cons, List.zipIdx_nil, ↓SP, SQ, Gam.add, stepM, callC, argC, lendO, nmBy, nmC, likeL, likeB, plainOb, offs, exL, X, F, trP, trO, stepD, stepW, newA, SV.tr, SV.trL, fz, allP, Ob.tr, loadA, cellsA, SV.cells, binA, binI, eqOut, isSl, isPt, natOf, callee, snap, SV.refsL, SV.refs, thaw, fzAll, loA, hiA, elemOf, partsA, buildA, putCells, ↓reduceIte, reduceCtorEq, okCell, Nat.reduceAdd, Nat.reduceEqDiff, Nat.reduceSub, Nat.reduceMul, Nat.reduceLeDiff, Nat.reduceLT, Nat.reduceBEq, PV.scal, PV.scalL, SV.scal, SV.scalL, Ob.scal, PV.isCell, pure', resO]
          refine loop_at (fun st : Nat × SV × Option Ob => mkEnv [(0, .p v), (2, sb false), (3, .p (.sl 1 (ints c))), (4, .p (.sl 1 (ints s))), (5, si (snV c s)), (6, sb true), (7, si (snV c s)), (8, sb true), (9, .p (.sl 1 (ints (yesL c s)))), (10, sb true), (11, .p (.sl 1 (ints (yesL c s)))), (12, sb true), (13, .p (.sl 1 (ints (noL c s)))), (14, sb true), (15, .p (.sl 1 (ints (noL c s)))), (16, sb true), (17, si (ndI true c)), (18, sb true), (19, si (ndI true c)), (20, sb true), (21, .p (.sl 1 (ints (hdB c)))), (22, sb true), (23, .p (.sl 1 (ints (hdB c)))), (24, sb true), (25, si ((beS true c).length : Int)), (26, sb true), (27, si ((beS true c).length : Int)), (28, sb true), (29, .ar 187), (30, si st.1), (31, .junk), (32, .junk), (33, .junk), (34, .junk), (35, .junk), (36, .junk), (37, .junk), (38, .junk), (40, sb false), (65, sb false), (86, sb false), (112, sb false), (136, sb false), (155, sb false), (185, sb false), (186, sb true), (191, st.2.1), (219, .junk), (220, .junk), (233, .junk), (251, .junk), (253, .junk)]) (fun st => mkO [(187, some (.arr 1 (ints ((restL c s).take st.1)))), (204, st.2.2), (205, none)]) (fun st => st.1 ≤ c.length) (fun st => c.length - st.1) (0, .junk, none) (by simp) rfl rfl ?_
          rintro ⟨j, x1, o1⟩ hj R hR hN
          simp only at hj
          by_cases h : j < c.length
          · have hlt : (j : Int) < c.length := by omega
            have hjs : j < s.length := by omega
            have hgc := ints_get h
            have hgs := ints_get hjs
            have hw1 : IntKind.i64.wrap ((j : Int) + 1) = ((j + 1 : Nat) : Int) := wrap_one (by omega)
            have hrg : (restL c s).getD j 0 = c.getD j 0 - s.getD j 0 := restL_get hjs
            have hbb := hsb j h
            have hw2 : IntKind.i64.wrap (c.getD j 0 - s.getD j 0) = (restL c s).getD j 0 := by rw [hrg]; exact wrap64 (by omega) (by omega)
            have hap : ints ((restL c s).take j) ++ [.int .i64 ((restL c s).getD j 0)] = ints ((restL c s).take (j + 1)) := by rw [ints_app1, ← take_one (restL c s) j 0 (by omega)]
            have hln : ((restL c s).take j).length + 1 ≤ roomA := by rw [List.length_take]; exact Nat.le_trans (by omega) (by decide : 100 ≤ roomA)
            simp only [hlt, h, hjs, hgc, hgs, hw1, hw2, hap, hln, ↓SP, SQ, Gam.add, stepM, callC, argC, lendO, nmBy, nmC, likeL, likeB, plainOb, offs, exL, X, F, trP, trO, stepD, stepW, newA, SV.tr, SV.trL, fz, allP, Ob.tr, loadA, cellsA, SV.cells, binA, binI, eqOut, isSl, isPt, natOf, callee, snap, SV.refsL, SV.refs, thaw, fzAll, loA, hiA, elemOf, partsA, buildA, putCells, ↓reduceIte, reduceCtorEq, okCell, Nat.reduceAdd, Nat.reduceEqDiff, Nat.reduceSub, Nat.reduceMul, Nat.reduceLeDiff, Nat.reduceLT, Nat.reduceBEq, PV.scal, PV.scalL, SV.scal, SV.scalL, Ob.scal, PV.isCell, pure', resO]
            exact hN (j + 1, _, _) _ _ (by simp only; omega) (by simp only; omega) rfl rfl
          · have he : j = c.length := by omega
            subst he
            have hlt : ¬ (c.length : Int) < c.length := by omega
            have htk : (restL c s).take c.length = restL c s := by rw [← hrl, List.take_length]
            simp only [hlt, htk, ↓SP, SQ, Gam.add, stepM, callC, argC, lendO, nmBy, nmC, likeL, likeB, plainOb, offs, exL, X, F, trP, trO, stepD, stepW, newA, SV.tr, SV.trL, fz, allP, Ob.tr, loadA, cellsA, SV.cells, binA, binI, eqOut, isSl, isPt, natOf, callee, snap, SV.refsL, SV.refs, thaw, fzAll, loA, hiA, elemOf, partsA, buildA, putCells, ↓reduceIte, reduceCtorEq, okCell, Nat.reduceAdd, Nat.reduceEqDiff, Nat.reduceSub, Nat.reduceMul, Nat.reduceLeDiff, Nat.reduceLT, Nat.reduceBEq, PV.scal, PV.scalL, SV.scal, SV.scalL, Ob.scal, PV.isCell, pure', resO]
            refine hR _ _ _ (by intro h; cases h) ?_
            simp only [h_YesCounts, c_YesCounts, h_eqIntS, c_eqIntS, h_NeedOf, c_NeedOf, h_SplitNeed, c_SplitNeed, q0, hrl, h1, hro, hyr, n0, y0, slI_sl, isI_ints, ofI_ints, ints_len, Bool.and_self, oy, on, Bool.not_true, Bool.not_false, Bool.false_eq_true, ↓SP, SQ, Gam.add, stepM, callC, argC, lendO, nmBy, nmC, likeL, likeB, plainOb, offs, exL, X, F, trP, trO, stepD, stepW, newA, SV.tr, SV.trL, fz, allP, Ob.tr, loadA, cellsA, SV.cells, binA, binI, eqOut, isSl, isPt, natOf, callee, snap, SV.refsL, SV.refs, thaw, fzAll, loA, hiA, elemOf, partsA, buildA, putCells, ↓reduceIte, reduceCtorEq, okCell, Nat.reduceAdd, Nat.reduceEqDiff, Nat.reduceSub, Nat.reduceMul, Nat.reduceLeDiff, Nat.reduceLT, Nat.reduceBEq, PV.scal, PV.scalL, SV.scal, SV.scalL, Ob.scal, PV.isCell, pure', resO]
            by_cases hgt : ndI true (noL c s) > ndI true (yesL c s)
            · have hwn : IntKind.i64.wrap (ndI true (noL c s) + 1) = ndI true (noL c s) + 1 := wrap64 (by omega) (by omega)
              have hev : (snV c s != ndI true (noL c s) + 1) = false := by rw [snV, ← mxI_max, if_pos hgt, Int.add_comm]; exact bne_self_eq_false _
              simp only [hgt, hwn, hev, hge2, h_SplitNeed, c_SplitNeed, q0, hll, ho2, hbe, isI_ints, ofI_ints, ints_len, Bool.not_true, Bool.not_false, Bool.false_eq_true, beq_self_eq_true, ↓SP, SQ, Gam.add, stepM, callC, argC, lendO, nmBy, nmC, likeL, likeB, plainOb, offs, exL, X, F, trP, trO, stepD, stepW, newA, SV.tr, SV.trL, fz, allP, Ob.tr, loadA, cellsA, SV.cells, binA, binI, eqOut, isSl, isPt, natOf, callee, snap, SV.refsL, SV.refs, thaw, fzAll, loA, hiA, elemOf, partsA, buildA, putCells, ↓reduceIte, reduceCtorEq, okCell, Nat.reduceAdd, Nat.reduceEqDiff, Nat.reduceSub, Nat.reduceMul, Nat.reduceLeDiff, Nat.reduceLT, Nat.reduceBEq, PV.scal, PV.scalL, SV.scal, SV.scalL, Ob.scal, PV.isCell, pure', resO]
              exact finA_val (by simp [retA, rvA, mkE_cons, mk_nil, mkO_cons, mkO_nil, loadA, SV.tr, SV.trL, nmF, rn_nil, rn_cons1, rn_cons2, plainOb, SV.refsL, SV.refs, Ob.refs, X, F, List.range_succ, mkO, setO_mk]) (by simp [SV.tr, SV.trL])
            · have hwn : IntKind.i64.wrap (ndI true (yesL c s) + 1) = ndI true (yesL c s) + 1 := wrap64 (by omega) (by omega)
              have hev : (snV c s != ndI true (yesL c s) + 1) = false := by rw [snV, ← mxI_max, if_neg hgt, Int.add_comm]; exact bne_self_eq_false _
              simp only [hgt, hwn, hev, hge2, h_SplitNeed, c_SplitNeed, q0, hll, ho2, hbe, isI_ints, ofI_ints, ints_len, Bool.not_true, Bool.not_false, Bool.false_eq_true, beq_self_eq_true, ↓SP, SQ, Gam.add, stepM, callC, argC, lendO, nmBy, nmC, likeL, likeB, plainOb, offs, exL, X, F, trP, trO, stepD, stepW, newA, SV.tr, SV.trL, fz, allP, Ob.tr, loadA, cellsA, SV.cells, binA, binI, eqOut, isSl, isPt, natOf, callee, snap, SV.refsL, SV.refs, thaw, fzAll, loA, hiA, elemOf, partsA, buildA, putCells, ↓reduceIte, reduceCtorEq, okCell, Nat.reduceAdd, Nat.reduceEqDiff, Nat.reduceSub, Nat.reduceMul, Nat.reduceLeDiff, Nat.reduceLT, Nat.reduceBEq, PV.scal, PV.scalL, SV.scal, SV.scalL, Ob.scal, PV.isCell, pure', resO]
              exact finA_val (by simp [retA, rvA, mkE_cons, mk_nil, mkO_cons, mkO_nil, loadA, SV.tr, SV.trL, nmF, rn_nil, rn_cons1, rn_cons2, plainOb, SV.refsL, SV.refs, Ob.refs, X, F, List.range_succ, mkO, setO_mk]) (by simp [SV.tr, SV.trL])
end Go.Proofs.Ytihpfhdkjlphhaa.Pam
