/- A part of the proof that stands in this folder: a small machine whose steps are shown to be the steps of the model, or walks of functions by it. No condition of its own. -/
import Derived.Test.YtihpfhdkjlphhaaGgOJ
set_option linter.unusedVariables false
set_option linter.unusedSimpArgs false
namespace Go.Proofs.Ytihpfhdkjlphhaa.Pam
open Go
theorem thaw_ow (b : Bool) (m : List Int) : thaw (if b = true then [.arr 1 (ints m)] else []) (if b = true then .tp [.ar 2000000, .p (.bool true)] else .tp [.p .nilsl, .p (.bool false)]) = .tp [.p (if b = true then .sl 1 (ints m) else .nilsl), .p (.bool b)] := by
  cases b <;> simp [thaw, fzAll, SV.tr, SV.trL, resO]
theorem thaw_ow2 (b : Bool) (m : List Int) : thaw (if b = true then [] else [.arr 1 []]) (.tp [if b = true then .p (.sl 1 (ints m)) else .ar 2000000, .p (.bool b)]) = .tp [.p (.sl 1 (ints (if b = true then m else []))), .p (.bool b)] := by
  cases b <;> simp [thaw, fzAll, SV.tr, SV.trL, resO, ints]
theorem slI_ite (b : Bool) (m : List Int) : slI (if b = true then .sl 1 (ints m) else .nilsl) = some (if b = true then m else []) := by
  cases b
  · rfl
  · simp [slI_sl]
theorem ite_len (b : Bool) (m : List Int) (h : m.length ≤ 1100000) : (if b = true then m else []).length ≤ 1100000 := by
  cases b
  · simp
  · simpa using h
def a_x_OneWayNeeds (f_rBig : FuncId) (f_DrawOneWayNeed : FuncId) (f_OneWayNeed : FuncId) (f_s_OneWayNeed : FuncId) (f_AreCounts : FuncId) (f_OneWaySplit : FuncId) (f_s_OneWaySplit : FuncId) (f_eqIntS : FuncId) (f_SavedOneWay : FuncId) (f_s_SavedOneWay : FuncId) (f_OneWayPaths : FuncId) (f_s_OneWayPaths : FuncId) (f_DrawSplitNeed : FuncId) (f_OneWayYes : FuncId) (f_s_OneWayYes : FuncId) (f_OneWayNo : FuncId) (f_s_OneWayNo : FuncId) (f_DrawOneWayTable : FuncId) (f_OneWayTable : FuncId) (f_s_OneWayTable : FuncId) (f_DrawOneWayMost : FuncId) (f_OneWayMost : FuncId) (f_s_OneWayMost : FuncId) (f_NeedOf : FuncId) : AFn := ⟨1, 
  .seq (.reg [⟨some 2, none, .d (.mv (.c (.bool false)))⟩])
  (.seq (.seq (.reg [⟨some 53, none, .d (.mv (.t 0))⟩,
    ⟨some 54, none, .d (.call (.f f_rBig) [(.t 53)])⟩])
  (.cond (.t 54) (.seq (.reg [⟨some 2, none, .d (.mv (.c (.bool true)))⟩])
   (.ret)) (.skip)))
  (.seq (.reg [⟨some 55, none, .d (.mv (.t 0))⟩,
    ⟨some 56, none, .d (.call (.f f_DrawOneWayNeed) [(.t 55)])⟩,
    ⟨some 3, none, .d (.mv (.t 56))⟩])
  (.seq (.reg [⟨some 58, none, .d (.mv (.t 3))⟩,
    ⟨some 59, none, .d (.call (.f f_OneWayNeed) [(.t 58)])⟩,
    ⟨some 57, none, .d (.mv (.t 59))⟩,
    ⟨some 60, none, .d (.extract (.t 57) 0)⟩,
    ⟨some 61, none, .d (.extract (.t 57) 1)⟩,
    ⟨some 4, none, .d (.mv (.t 60))⟩,
    ⟨some 5, none, .d (.mv (.t 61))⟩])
  (.seq (.seq (.reg [⟨some 63, none, .d (.mv (.t 3))⟩,
    ⟨some 64, none, .d (.call (.f f_s_OneWayNeed) [(.t 63)])⟩,
    ⟨some 62, none, .d (.mv (.t 64))⟩,
    ⟨some 65, none, .d (.extract (.t 62) 0)⟩,
    ⟨some 66, none, .d (.extract (.t 62) 1)⟩,
    ⟨some 6, none, .d (.mv (.t 65))⟩,
    ⟨some 7, none, .d (.mv (.t 66))⟩])
  (.seq (.reg [⟨some 67, none, .d (.mv (.t 4))⟩,
    ⟨some 68, none, .d (.mv (.t 6))⟩,
    ⟨some 69, none, .d (.bin .arith .neq (.t 67) (.t 68))⟩,
    ⟨some 70, none, .d (.mv (.t 69))⟩,
    ⟨some 71, some (70, false), .d (.mv (.t 5))⟩,
    ⟨some 72, some (70, false), .d (.mv (.t 7))⟩,
    ⟨some 73, some (70, false), .d (.bin .bool .neq (.t 71) (.t 72))⟩,
    ⟨some 74, none, .d (.pick (.t 70) (.c (.bool true)) (.t 73))⟩,
    ⟨some 75, none, .d (.mv (.t 74))⟩,
    ⟨some 76, some (75, false), .d (.mv (.t 5))⟩,
    ⟨some 77, some (75, false), .d (.mv (.t 3))⟩,
    ⟨some 78, some (75, false), .d (.call (.f f_AreCounts) [(.t 77)])⟩,
    ⟨some 79, some (75, false), .d (.bin .bool .neq (.t 76) (.t 78))⟩,
    ⟨some 80, none, .d (.pick (.t 75) (.c (.bool true)) (.t 79))⟩])
  (.cond (.t 80) (.seq (.reg [⟨some 2, none, .d (.mv (.c (.bool false)))⟩])
   (.ret)) (.skip))))
  (.seq (.reg [⟨some 82, none, .d (.mv (.t 3))⟩,
    ⟨some 83, none, .d (.call (.f f_OneWaySplit) [(.t 82)])⟩,
    ⟨some 81, none, .d (.mv (.t 83))⟩,
    ⟨some 84, none, .d (.extract (.t 81) 0)⟩,
    ⟨some 85, none, .d (.extract (.t 81) 1)⟩,
    ⟨some 8, none, .d (.mv (.t 84))⟩,
    ⟨some 9, none, .d (.mv (.t 85))⟩])
  (.seq (.seq (.reg [⟨some 87, none, .d (.mv (.t 3))⟩,
    ⟨some 88, none, .d (.call (.f f_s_OneWaySplit) [(.t 87)])⟩,
    ⟨some 86, none, .d (.mv (.t 88))⟩,
    ⟨some 89, none, .d (.extract (.t 86) 0)⟩,
    ⟨some 90, none, .d (.extract (.t 86) 1)⟩,
    ⟨some 10, none, .d (.mv (.t 89))⟩,
    ⟨some 11, none, .d (.mv (.t 90))⟩])
  (.seq (.reg [⟨some 91, none, .d (.mv (.t 9))⟩,
    ⟨some 92, none, .d (.mv (.t 11))⟩,
    ⟨some 93, none, .d (.bin .bool .neq (.t 91) (.t 92))⟩,
    ⟨some 94, none, .d (.mv (.t 93))⟩,
    ⟨some 95, some (94, false), .d (.mv (.t 8))⟩,
    ⟨some 96, some (94, false), .d (.mv (.t 10))⟩,
    ⟨some 97, some (94, false), .d (.call (.f f_eqIntS) [(.t 95), (.t 96)])⟩,
    ⟨some 98, some (94, false), .d (.not (.t 97))⟩,
    ⟨some 99, none, .d (.pick (.t 94) (.c (.bool true)) (.t 98))⟩])
  (.cond (.t 99) (.seq (.reg [⟨some 2, none, .d (.mv (.c (.bool false)))⟩])
   (.ret)) (.skip))))
  (.seq (.reg [⟨some 101, none, .d (.mv (.t 3))⟩,
    ⟨some 102, none, .d (.call (.f f_SavedOneWay) [(.t 101)])⟩,
    ⟨some 100, none, .d (.mv (.t 102))⟩,
    ⟨some 103, none, .d (.extract (.t 100) 0)⟩,
    ⟨some 104, none, .d (.extract (.t 100) 1)⟩,
    ⟨some 12, none, .d (.mv (.t 103))⟩,
    ⟨some 13, none, .d (.mv (.t 104))⟩])
  (.seq (.seq (.reg [⟨some 106, none, .d (.mv (.t 3))⟩,
    ⟨some 107, none, .d (.call (.f f_s_SavedOneWay) [(.t 106)])⟩,
    ⟨some 105, none, .d (.mv (.t 107))⟩,
    ⟨some 108, none, .d (.extract (.t 105) 0)⟩,
    ⟨some 109, none, .d (.extract (.t 105) 1)⟩,
    ⟨some 14, none, .d (.mv (.t 108))⟩,
    ⟨some 15, none, .d (.mv (.t 109))⟩])
  (.seq (.reg [⟨some 110, none, .d (.mv (.t 12))⟩,
    ⟨some 111, none, .d (.mv (.t 14))⟩,
    ⟨some 112, none, .d (.bin .arith .neq (.t 110) (.t 111))⟩,
    ⟨some 113, none, .d (.mv (.t 112))⟩,
    ⟨some 114, some (113, false), .d (.mv (.t 13))⟩,
    ⟨some 115, some (113, false), .d (.mv (.t 15))⟩,
    ⟨some 116, some (113, false), .d (.bin .bool .neq (.t 114) (.t 115))⟩,
    ⟨some 117, none, .d (.pick (.t 113) (.c (.bool true)) (.t 116))⟩,
    ⟨some 118, none, .d (.mv (.t 117))⟩,
    ⟨some 119, some (118, false), .d (.mv (.t 13))⟩,
    ⟨some 120, some (118, false), .d (.mv (.t 5))⟩,
    ⟨some 121, some (118, false), .d (.bin .bool .neq (.t 119) (.t 120))⟩,
    ⟨some 122, none, .d (.pick (.t 118) (.c (.bool true)) (.t 121))⟩,
    ⟨some 123, none, .d (.mv (.t 122))⟩,
    ⟨some 124, some (123, false), .d (.mv (.t 12))⟩,
    ⟨some 125, some (123, false), .d (.bin .arith .lss (.t 124) (.c (.int .i64 0)))⟩,
    ⟨some 126, none, .d (.pick (.t 123) (.c (.bool true)) (.t 125))⟩])
  (.cond (.t 126) (.seq (.reg [⟨some 2, none, .d (.mv (.c (.bool false)))⟩])
   (.ret)) (.skip))))
  (.seq (.reg [⟨some 128, none, .d (.mv (.t 3))⟩,
    ⟨some 129, none, .d (.call (.f f_OneWayPaths) [(.t 128)])⟩,
    ⟨some 127, none, .d (.mv (.t 129))⟩,
    ⟨some 130, none, .d (.extract (.t 127) 0)⟩,
    ⟨some 131, none, .d (.extract (.t 127) 1)⟩,
    ⟨some 132, none, .d (.extract (.t 127) 2)⟩,
    ⟨some 16, none, .d (.mv (.t 130))⟩,
    ⟨some 17, none, .d (.mv (.t 131))⟩,
    ⟨some 18, none, .d (.mv (.t 132))⟩])
  (.seq (.seq (.reg [⟨some 134, none, .d (.mv (.t 3))⟩,
    ⟨some 135, none, .d (.call (.f f_s_OneWayPaths) [(.t 134)])⟩,
    ⟨some 133, none, .d (.mv (.t 135))⟩,
    ⟨some 136, none, .d (.extract (.t 133) 0)⟩,
    ⟨some 137, none, .d (.extract (.t 133) 1)⟩,
    ⟨some 138, none, .d (.extract (.t 133) 2)⟩,
    ⟨some 19, none, .d (.mv (.t 136))⟩,
    ⟨some 20, none, .d (.mv (.t 137))⟩,
    ⟨some 21, none, .d (.mv (.t 138))⟩])
  (.seq (.reg [⟨some 139, none, .d (.mv (.t 16))⟩,
    ⟨some 140, none, .d (.mv (.t 19))⟩,
    ⟨some 141, none, .d (.bin .arith .neq (.t 139) (.t 140))⟩,
    ⟨some 142, none, .d (.mv (.t 141))⟩,
    ⟨some 143, some (142, false), .d (.mv (.t 17))⟩,
    ⟨some 144, some (142, false), .d (.mv (.t 20))⟩,
    ⟨some 145, some (142, false), .d (.bin .arith .neq (.t 143) (.t 144))⟩,
    ⟨some 146, none, .d (.pick (.t 142) (.c (.bool true)) (.t 145))⟩,
    ⟨some 147, none, .d (.mv (.t 146))⟩,
    ⟨some 148, some (147, false), .d (.mv (.t 18))⟩,
    ⟨some 149, some (147, false), .d (.mv (.t 21))⟩,
    ⟨some 150, some (147, false), .d (.bin .bool .neq (.t 148) (.t 149))⟩,
    ⟨some 151, none, .d (.pick (.t 147) (.c (.bool true)) (.t 150))⟩,
    ⟨some 152, none, .d (.mv (.t 151))⟩,
    ⟨some 153, some (152, false), .d (.mv (.t 18))⟩,
    ⟨some 154, some (152, false), .d (.mv (.t 5))⟩,
    ⟨some 155, some (152, false), .d (.bin .bool .neq (.t 153) (.t 154))⟩,
    ⟨some 156, none, .d (.pick (.t 152) (.c (.bool true)) (.t 155))⟩,
    ⟨some 157, none, .d (.mv (.t 156))⟩,
    ⟨some 158, some (157, false), .d (.mv (.t 18))⟩,
    ⟨some 159, some (157, false), .d (.mv (.t 158))⟩,
    ⟨some 160, some (159, true), .d (.mv (.t 16))⟩,
    ⟨some 161, some (159, true), .d (.mv (.t 17))⟩,
    ⟨some 162, some (159, true), .d (.bin .arith .gtr (.t 160) (.t 161))⟩,
    ⟨some 163, some (159, true), .d (.mv (.t 162))⟩,
    ⟨some 164, some (163, false), .d (.mv (.t 17))⟩,
    ⟨some 165, some (163, false), .d (.mv (.t 4))⟩,
    ⟨some 166, some (163, false), .d (.bin .arith .neq (.t 164) (.t 165))⟩,
    ⟨some 167, some (159, true), .d (.pick (.t 163) (.c (.bool true)) (.t 166))⟩,
    ⟨some 168, some (157, false), .d (.pick (.t 159) (.t 167) (.c (.bool false)))⟩,
    ⟨some 169, none, .d (.pick (.t 157) (.c (.bool true)) (.t 168))⟩])
  (.cond (.t 169) (.seq (.reg [⟨some 2, none, .d (.mv (.c (.bool false)))⟩])
   (.ret)) (.skip))))
  (.seq (.reg [⟨some 171, none, .d (.mv (.t 0))⟩,
    ⟨some 172, none, .d (.call (.f f_DrawSplitNeed) [(.t 171)])⟩,
    ⟨some 170, none, .d (.mv (.t 172))⟩,
    ⟨some 173, none, .d (.extract (.t 170) 0)⟩,
    ⟨some 174, none, .d (.extract (.t 170) 1)⟩,
    ⟨some 22, none, .d (.mv (.t 173))⟩,
    ⟨some 23, none, .d (.mv (.t 174))⟩])
  (.seq (.reg [⟨some 176, none, .d (.mv (.t 22))⟩,
    ⟨some 177, none, .d (.mv (.t 23))⟩,
    ⟨some 178, none, .d (.call (.f f_OneWayYes) [(.t 176), (.t 177)])⟩,
    ⟨some 175, none, .d (.mv (.t 178))⟩,
    ⟨some 179, none, .d (.extract (.t 175) 0)⟩,
    ⟨some 180, none, .d (.extract (.t 175) 1)⟩,
    ⟨some 24, none, .d (.mv (.t 179))⟩,
    ⟨some 25, none, .d (.mv (.t 180))⟩])
  (.seq (.seq (.reg [⟨some 182, none, .d (.mv (.t 22))⟩,
    ⟨some 183, none, .d (.mv (.t 23))⟩,
    ⟨some 184, none, .d (.call (.f f_s_OneWayYes) [(.t 182), (.t 183)])⟩,
    ⟨some 181, none, .d (.mv (.t 184))⟩,
    ⟨some 185, none, .d (.extract (.t 181) 0)⟩,
    ⟨some 186, none, .d (.extract (.t 181) 1)⟩,
    ⟨some 26, none, .d (.mv (.t 185))⟩,
    ⟨some 27, none, .d (.mv (.t 186))⟩])
  (.seq (.reg [⟨some 187, none, .d (.mv (.t 25))⟩,
    ⟨some 188, none, .d (.mv (.t 27))⟩,
    ⟨some 189, none, .d (.bin .bool .neq (.t 187) (.t 188))⟩,
    ⟨some 190, none, .d (.mv (.t 189))⟩,
    ⟨some 191, some (190, false), .d (.mv (.t 24))⟩,
    ⟨some 192, some (190, false), .d (.mv (.t 26))⟩,
    ⟨some 193, some (190, false), .d (.call (.f f_eqIntS) [(.t 191), (.t 192)])⟩,
    ⟨some 194, some (190, false), .d (.not (.t 193))⟩,
    ⟨some 195, none, .d (.pick (.t 190) (.c (.bool true)) (.t 194))⟩])
  (.cond (.t 195) (.seq (.reg [⟨some 2, none, .d (.mv (.c (.bool false)))⟩])
   (.ret)) (.skip))))
  (.seq (.reg [⟨some 197, none, .d (.mv (.t 22))⟩,
    ⟨some 198, none, .d (.mv (.t 23))⟩,
    ⟨some 199, none, .d (.call (.f f_OneWayNo) [(.t 197), (.t 198)])⟩,
    ⟨some 196, none, .d (.mv (.t 199))⟩,
    ⟨some 200, none, .d (.extract (.t 196) 0)⟩,
    ⟨some 201, none, .d (.extract (.t 196) 1)⟩,
    ⟨some 28, none, .d (.mv (.t 200))⟩,
    ⟨some 29, none, .d (.mv (.t 201))⟩])
  (.seq (.seq (.reg [⟨some 203, none, .d (.mv (.t 22))⟩,
    ⟨some 204, none, .d (.mv (.t 23))⟩,
    ⟨some 205, none, .d (.call (.f f_s_OneWayNo) [(.t 203), (.t 204)])⟩,
    ⟨some 202, none, .d (.mv (.t 205))⟩,
    ⟨some 206, none, .d (.extract (.t 202) 0)⟩,
    ⟨some 207, none, .d (.extract (.t 202) 1)⟩,
    ⟨some 30, none, .d (.mv (.t 206))⟩,
    ⟨some 31, none, .d (.mv (.t 207))⟩])
  (.seq (.reg [⟨some 208, none, .d (.mv (.t 29))⟩,
    ⟨some 209, none, .d (.mv (.t 31))⟩,
    ⟨some 210, none, .d (.bin .bool .neq (.t 208) (.t 209))⟩,
    ⟨some 211, none, .d (.mv (.t 210))⟩,
    ⟨some 212, some (211, false), .d (.mv (.t 29))⟩,
    ⟨some 213, some (211, false), .d (.mv (.t 25))⟩,
    ⟨some 214, some (211, false), .d (.bin .bool .neq (.t 212) (.t 213))⟩,
    ⟨some 215, none, .d (.pick (.t 211) (.c (.bool true)) (.t 214))⟩,
    ⟨some 216, none, .d (.mv (.t 215))⟩,
    ⟨some 217, some (216, false), .d (.mv (.t 28))⟩,
    ⟨some 218, some (216, false), .d (.mv (.t 30))⟩,
    ⟨some 219, some (216, false), .d (.call (.f f_eqIntS) [(.t 217), (.t 218)])⟩,
    ⟨some 220, some (216, false), .d (.not (.t 219))⟩,
    ⟨some 221, none, .d (.pick (.t 216) (.c (.bool true)) (.t 220))⟩])
  (.cond (.t 221) (.seq (.reg [⟨some 2, none, .d (.mv (.c (.bool false)))⟩])
   (.ret)) (.skip))))
  (.seq (.reg [⟨some 222, none, .d (.mv (.t 0))⟩,
    ⟨some 223, none, .d (.call (.f f_DrawOneWayTable) [(.t 222)])⟩,
    ⟨some 32, none, .d (.mv (.t 223))⟩])
  (.seq (.reg [⟨some 225, none, .d (.mv (.t 32))⟩,
    ⟨some 226, none, .d (.call (.f f_OneWayTable) [(.t 225)])⟩,
    ⟨some 224, none, .d (.mv (.t 226))⟩,
    ⟨some 227, none, .d (.extract (.t 224) 0)⟩,
    ⟨some 228, none, .d (.extract (.t 224) 1)⟩,
    ⟨some 33, none, .d (.mv (.t 227))⟩,
    ⟨some 34, none, .d (.mv (.t 228))⟩])
  (.seq (.seq (.reg [⟨some 230, none, .d (.mv (.t 32))⟩,
    ⟨some 231, none, .d (.call (.f f_s_OneWayTable) [(.t 230)])⟩,
    ⟨some 229, none, .d (.mv (.t 231))⟩,
    ⟨some 232, none, .d (.extract (.t 229) 0)⟩,
    ⟨some 233, none, .d (.extract (.t 229) 1)⟩,
    ⟨some 35, none, .d (.mv (.t 232))⟩,
    ⟨some 36, none, .d (.mv (.t 233))⟩])
  (.seq (.reg [⟨some 234, none, .d (.mv (.t 34))⟩,
    ⟨some 235, none, .d (.mv (.t 36))⟩,
    ⟨some 236, none, .d (.bin .bool .neq (.t 234) (.t 235))⟩,
    ⟨some 237, none, .d (.mv (.t 236))⟩,
    ⟨some 238, some (237, false), .d (.mv (.t 33))⟩,
    ⟨some 239, some (237, false), .d (.mv (.t 35))⟩,
    ⟨some 240, some (237, false), .d (.call (.f f_eqIntS) [(.t 238), (.t 239)])⟩,
    ⟨some 241, some (237, false), .d (.not (.t 240))⟩,
    ⟨some 242, none, .d (.pick (.t 237) (.c (.bool true)) (.t 241))⟩])
  (.cond (.t 242) (.seq (.reg [⟨some 2, none, .d (.mv (.c (.bool false)))⟩])
   (.ret)) (.skip))))
  (.seq (.reg [⟨some 244, none, .d (.mv (.t 0))⟩,
    ⟨some 245, none, .d (.call (.f f_DrawOneWayMost) [(.t 244)])⟩,
    ⟨some 243, none, .d (.mv (.t 245))⟩,
    ⟨some 246, none, .d (.extract (.t 243) 0)⟩,
    ⟨some 247, none, .d (.extract (.t 243) 1)⟩,
    ⟨some 37, none, .d (.mv (.t 246))⟩,
    ⟨some 38, none, .d (.mv (.t 247))⟩])
  (.seq (.reg [⟨some 249, none, .d (.mv (.t 37))⟩,
    ⟨some 250, none, .d (.mv (.t 38))⟩,
    ⟨some 251, none, .d (.call (.f f_OneWayMost) [(.t 249), (.t 250)])⟩,
    ⟨some 248, none, .d (.mv (.t 251))⟩,
    ⟨some 252, none, .d (.extract (.t 248) 0)⟩,
    ⟨some 253, none, .d (.extract (.t 248) 1)⟩,
    ⟨some 39, none, .d (.mv (.t 252))⟩,
    ⟨some 40, none, .d (.mv (.t 253))⟩])
  (.seq (.seq (.reg [⟨some 255, none, .d (.mv (.t 37))⟩,
    ⟨some 256, none, .d (.mv (.t 38))⟩,
    ⟨some 257, none, .d (.call (.f f_s_OneWayMost) [(.t 255), (.t 256)])⟩,
    ⟨some 254, none, .d (.mv (.t 257))⟩,
    ⟨some 258, none, .d (.extract (.t 254) 0)⟩,
    ⟨some 259, none, .d (.extract (.t 254) 1)⟩,
    ⟨some 41, none, .d (.mv (.t 258))⟩,
    ⟨some 42, none, .d (.mv (.t 259))⟩])
  (.seq (.reg [⟨some 260, none, .d (.mv (.t 39))⟩,
    ⟨some 261, none, .d (.mv (.t 41))⟩,
    ⟨some 262, none, .d (.bin .arith .neq (.t 260) (.t 261))⟩,
    ⟨some 263, none, .d (.mv (.t 262))⟩,
    ⟨some 264, some (263, false), .d (.mv (.t 40))⟩,
    ⟨some 265, some (263, false), .d (.mv (.t 42))⟩,
    ⟨some 266, some (263, false), .d (.bin .bool .neq (.t 264) (.t 265))⟩,
    ⟨some 267, none, .d (.pick (.t 263) (.c (.bool true)) (.t 266))⟩])
  (.cond (.t 267) (.seq (.reg [⟨some 2, none, .d (.mv (.c (.bool false)))⟩])
   (.ret)) (.skip))))
  (.seq (.seq (.reg [⟨some 268, none, .d (.mv (.t 34))⟩,
    ⟨some 269, none, .d (.mv (.t 268))⟩,
    ⟨some 270, some (269, true), .d (.mv (.t 40))⟩,
    ⟨some 271, none, .d (.pick (.t 269) (.t 270) (.c (.bool false)))⟩,
    ⟨some 272, none, .d (.mv (.t 271))⟩,
    ⟨some 273, some (272, true), .d (.mv (.t 32))⟩,
    ⟨some 274, some (272, true), .d (.mv (.t 38))⟩,
    ⟨some 275, some (272, true), .d (.bin .arith .eql (.t 273) (.t 274))⟩,
    ⟨some 276, none, .d (.pick (.t 272) (.t 275) (.c (.bool false)))⟩,
    ⟨some 277, none, .d (.mv (.t 276))⟩,
    ⟨some 278, some (277, true), .d (.mv (.t 33))⟩,
    ⟨some 279, some (277, true), .d (.mv (.t 39))⟩,
    ⟨some 280, some (277, true), .d (.bin .arith .sub (.t 279) (.c (.int .i64 1)))⟩,
    ⟨some 281, some (277, true), .d (.ia 1 (.t 278) (.t 280))⟩,
    ⟨some 282, some (277, true), .d (.load false 1 (.t 281))⟩,
    ⟨some 283, some (277, true), .d (.mv (.t 37))⟩,
    ⟨some 284, some (277, true), .d (.bin .arith .gtr (.t 282) (.t 283))⟩,
    ⟨some 285, some (277, true), .d (.mv (.t 284))⟩,
    ⟨some 286, some (285, false), .d (.mv (.t 39))⟩,
    ⟨some 287, some (285, false), .d (.mv (.t 33))⟩,
    ⟨some 288, some (285, false), .d (.len (.t 287))⟩,
    ⟨some 289, some (285, false), .d (.bin .arith .lss (.t 286) (.t 288))⟩,
    ⟨some 290, some (285, false), .d (.mv (.t 289))⟩,
    ⟨some 291, some (290, true), .d (.mv (.t 33))⟩,
    ⟨some 292, some (290, true), .d (.mv (.t 39))⟩,
    ⟨some 293, some (290, true), .d (.ia 1 (.t 291) (.t 292))⟩,
    ⟨some 294, some (290, true), .d (.load false 1 (.t 293))⟩,
    ⟨some 295, some (290, true), .d (.mv (.t 37))⟩,
    ⟨some 296, some (290, true), .d (.bin .arith .leq (.t 294) (.t 295))⟩,
    ⟨some 297, some (285, false), .d (.pick (.t 290) (.t 296) (.c (.bool false)))⟩,
    ⟨some 298, some (277, true), .d (.pick (.t 285) (.c (.bool true)) (.t 297))⟩,
    ⟨some 299, none, .d (.pick (.t 277) (.t 298) (.c (.bool false)))⟩])
  (.cond (.t 299) (.seq (.reg [⟨some 2, none, .d (.mv (.c (.bool false)))⟩])
   (.ret)) (.skip)))
  (.seq (.seq (.reg [⟨some 300, none, .d (.mv (.t 9))⟩])
  (.cond (.t 300) (.seq (.reg [⟨some 302, none, .d (.mv (.t 3))⟩,
     ⟨some 303, none, .d (.mv (.t 8))⟩,
     ⟨some 304, none, .d (.call (.f f_OneWayYes) [(.t 302), (.t 303)])⟩,
     ⟨some 301, none, .d (.mv (.t 304))⟩,
     ⟨some 305, none, .d (.extract (.t 301) 0)⟩,
     ⟨some 306, none, .d (.extract (.t 301) 1)⟩,
     ⟨some 43, none, .d (.mv (.t 305))⟩,
     ⟨some 44, none, .d (.mv (.t 306))⟩])
   (.seq (.reg [⟨some 308, none, .d (.mv (.t 3))⟩,
     ⟨some 309, none, .d (.mv (.t 8))⟩,
     ⟨some 310, none, .d (.call (.f f_OneWayNo) [(.t 308), (.t 309)])⟩,
     ⟨some 307, none, .d (.mv (.t 310))⟩,
     ⟨some 311, none, .d (.extract (.t 307) 0)⟩,
     ⟨some 312, none, .d (.extract (.t 307) 1)⟩,
     ⟨some 45, none, .d (.mv (.t 311))⟩,
     ⟨some 46, none, .d (.mv (.t 312))⟩])
   (.seq (.reg [⟨some 314, none, .d (.mv (.t 43))⟩,
     ⟨some 315, none, .d (.call (.f f_OneWayNeed) [(.t 314)])⟩,
     ⟨some 313, none, .d (.mv (.t 315))⟩,
     ⟨some 316, none, .d (.extract (.t 313) 0)⟩,
     ⟨some 317, none, .d (.extract (.t 313) 1)⟩,
     ⟨some 47, none, .d (.mv (.t 316))⟩,
     ⟨some 48, none, .d (.mv (.t 317))⟩])
   (.seq (.reg [⟨some 319, none, .d (.mv (.t 45))⟩,
     ⟨some 320, none, .d (.call (.f f_OneWayNeed) [(.t 319)])⟩,
     ⟨some 318, none, .d (.mv (.t 320))⟩,
     ⟨some 321, none, .d (.extract (.t 318) 0)⟩,
     ⟨some 322, none, .d (.extract (.t 318) 1)⟩,
     ⟨some 49, none, .d (.mv (.t 321))⟩,
     ⟨some 50, none, .d (.mv (.t 322))⟩])
   (.seq (.reg [⟨some 323, none, .d (.mv (.t 44))⟩,
     ⟨some 324, none, .d (.not (.t 323))⟩,
     ⟨some 325, none, .d (.mv (.t 324))⟩,
     ⟨some 326, some (325, false), .d (.mv (.t 46))⟩,
     ⟨some 327, some (325, false), .d (.not (.t 326))⟩,
     ⟨some 328, none, .d (.pick (.t 325) (.c (.bool true)) (.t 327))⟩,
     ⟨some 329, none, .d (.mv (.t 328))⟩,
     ⟨some 330, some (329, false), .d (.mv (.t 48))⟩,
     ⟨some 331, some (329, false), .d (.not (.t 330))⟩,
     ⟨some 332, none, .d (.pick (.t 329) (.c (.bool true)) (.t 331))⟩,
     ⟨some 333, none, .d (.mv (.t 332))⟩,
     ⟨some 334, some (333, false), .d (.mv (.t 50))⟩,
     ⟨some 335, some (333, false), .d (.not (.t 334))⟩,
     ⟨some 336, none, .d (.pick (.t 333) (.c (.bool true)) (.t 335))⟩,
     ⟨some 337, none, .d (.mv (.t 336))⟩,
     ⟨some 338, some (337, false), .d (.mv (.t 47))⟩,
     ⟨some 339, some (337, false), .d (.mv (.t 4))⟩,
     ⟨some 340, some (337, false), .d (.bin .arith .geq (.t 338) (.t 339))⟩,
     ⟨some 341, none, .d (.pick (.t 337) (.c (.bool true)) (.t 340))⟩,
     ⟨some 342, none, .d (.mv (.t 341))⟩,
     ⟨some 343, some (342, false), .d (.mv (.t 49))⟩,
     ⟨some 344, some (342, false), .d (.mv (.t 4))⟩,
     ⟨some 345, some (342, false), .d (.bin .arith .geq (.t 343) (.t 344))⟩,
     ⟨some 346, none, .d (.pick (.t 342) (.c (.bool true)) (.t 345))⟩,
     ⟨some 347, none, .d (.mv (.t 346))⟩,
     ⟨some 348, some (347, false), .d (.mv (.t 47))⟩,
     ⟨some 349, some (347, false), .d (.mv (.t 4))⟩,
     ⟨some 350, some (347, false), .d (.bin .arith .sub (.t 349) (.c (.int .i64 1)))⟩,
     ⟨some 351, some (347, false), .d (.bin .arith .neq (.t 348) (.t 350))⟩,
     ⟨some 352, some (347, false), .d (.mv (.t 351))⟩,
     ⟨some 353, some (352, true), .d (.mv (.t 49))⟩,
     ⟨some 354, some (352, true), .d (.mv (.t 4))⟩,
     ⟨some 355, some (352, true), .d (.bin .arith .sub (.t 354) (.c (.int .i64 1)))⟩,
     ⟨some 356, some (352, true), .d (.bin .arith .neq (.t 353) (.t 355))⟩,
     ⟨some 357, some (347, false), .d (.pick (.t 352) (.t 356) (.c (.bool false)))⟩,
     ⟨some 358, none, .d (.pick (.t 347) (.c (.bool true)) (.t 357))⟩])
   (.cond (.t 358) (.seq (.reg [⟨some 2, none, .d (.mv (.c (.bool false)))⟩])
    (.ret)) (.skip))))))) (.skip)))
  (.seq (.seq (.reg [⟨some 359, none, .d (.mv (.t 5))⟩,
    ⟨some 360, none, .d (.not (.t 359))⟩])
  (.cond (.t 360) (.seq (.reg [⟨some 2, none, .d (.mv (.c (.bool true)))⟩])
   (.ret)) (.skip)))
  (.seq (.reg [⟨some 362, none, .d (.mv (.t 3))⟩,
    ⟨some 363, none, .d (.call (.f f_NeedOf) [(.t 362)])⟩,
    ⟨some 361, none, .d (.mv (.t 363))⟩,
    ⟨some 364, none, .d (.extract (.t 361) 0)⟩,
    ⟨some 365, none, .d (.extract (.t 361) 1)⟩,
    ⟨some 51, none, .d (.mv (.t 364))⟩,
    ⟨some 52, none, .d (.mv (.t 365))⟩])
  (.seq (.reg [⟨some 366, none, .d (.mv (.t 52))⟩,
    ⟨some 367, none, .d (.mv (.t 366))⟩,
    ⟨some 368, some (367, true), .d (.mv (.t 51))⟩,
    ⟨some 369, some (367, true), .d (.mv (.t 4))⟩,
    ⟨some 370, some (367, true), .d (.bin .arith .sub (.t 368) (.t 369))⟩,
    ⟨some 371, some (367, true), .d (.mv (.t 12))⟩,
    ⟨some 372, some (367, true), .d (.bin .arith .eql (.t 370) (.t 371))⟩,
    ⟨some 373, none, .d (.pick (.t 367) (.t 372) (.c (.bool false)))⟩,
    ⟨some 2, none, .d (.mv (.t 373))⟩])
  (.ret))))))))))))))))))))))))))), [.tmp 2]⟩
def n_x_OneWayNeeds : Nat → Option Ann := fun _ => none
abbrev k_x_OneWayNeeds : List Nat := [0, 2, 3, 4, 5, 6, 7, 8, 9, 10, 11, 12, 13, 14, 15, 16, 17, 18, 19, 20, 21, 22, 23, 24, 25, 26, 27, 28, 29, 30, 31, 32, 33, 34, 35, 36, 37, 38, 39, 40, 41, 42, 43, 44, 45, 46, 47, 48, 49, 50, 51, 52, 54, 80, 99, 126, 169, 195, 221, 242, 267, 299, 300, 358, 360]
abbrev o_x_OneWayNeeds : List Nat := []
def c_x_OneWayNeeds : Con := pure' fun
  | [.p v] => match slU v with
    | some l => if l.length ≤ 9223372036854775807 then some (.p (.bool true), []) else none
    | none => none
  | _ => none
set_option maxHeartbeats 16000000 in
set_option maxRecDepth 100000 in
theorem s_x_OneWayNeeds {P : Program} (hm : P.follows .mixedOrders = true) {Γ : Gam} (hΓ : GS P Γ) {n : FuncId} {f_rBig : FuncId} {f_DrawOneWayNeed : FuncId} {f_OneWayNeed : FuncId} {f_s_OneWayNeed : FuncId} {f_AreCounts : FuncId} {f_OneWaySplit : FuncId} {f_s_OneWaySplit : FuncId} {f_eqIntS : FuncId} {f_SavedOneWay : FuncId} {f_s_SavedOneWay : FuncId} {f_OneWayPaths : FuncId} {f_s_OneWayPaths : FuncId} {f_DrawSplitNeed : FuncId} {f_OneWayYes : FuncId} {f_s_OneWayYes : FuncId} {f_OneWayNo : FuncId} {f_s_OneWayNo : FuncId} {f_DrawOneWayTable : FuncId} {f_OneWayTable : FuncId} {f_s_OneWayTable : FuncId} {f_DrawOneWayMost : FuncId} {f_OneWayMost : FuncId} {f_s_OneWayMost : FuncId} {f_NeedOf : FuncId} (is : Is P n (a_x_OneWayNeeds f_rBig f_DrawOneWayNeed f_OneWayNeed f_s_OneWayNeed f_AreCounts f_OneWaySplit f_s_OneWaySplit f_eqIntS f_SavedOneWay f_s_SavedOneWay f_OneWayPaths f_s_OneWayPaths f_DrawSplitNeed f_OneWayYes f_s_OneWayYes f_OneWayNo f_s_OneWayNo f_DrawOneWayTable f_OneWayTable f_s_OneWayTable f_DrawOneWayMost f_OneWayMost f_s_OneWayMost f_NeedOf)) (h_rBig : Γ f_rBig = c_rBig) (h_DrawOneWayNeed : Γ f_DrawOneWayNeed = c_DrawOneWayNeed) (h_OneWayNeed : Γ f_OneWayNeed = c_OneWayNeed) (h_s_OneWayNeed : Γ f_s_OneWayNeed = c_OneWayNeed) (h_AreCounts : Γ f_AreCounts = c_AreCounts) (h_OneWaySplit : Γ f_OneWaySplit = c_OneWaySplit) (h_s_OneWaySplit : Γ f_s_OneWaySplit = c_s_OneWaySplit) (h_eqIntS : Γ f_eqIntS = c_eqIntS) (h_SavedOneWay : Γ f_SavedOneWay = c_SavedOneWay) (h_s_SavedOneWay : Γ f_s_SavedOneWay = c_SavedOneWay) (h_OneWayPaths : Γ f_OneWayPaths = c_OneWayPaths) (h_s_OneWayPaths : Γ f_s_OneWayPaths = c_OneWayPaths) (h_DrawSplitNeed : Γ f_DrawSplitNeed = c_DrawSplitNeed) (h_OneWayYes : Γ f_OneWayYes = c_OneWayYes) (h_s_OneWayYes : Γ f_s_OneWayYes = c_s_OneWayYes) (h_OneWayNo : Γ f_OneWayNo = c_OneWayNo) (h_s_OneWayNo : Γ f_s_OneWayNo = c_s_OneWayNo) (h_DrawOneWayTable : Γ f_DrawOneWayTable = c_DrawNeedTable) (h_OneWayTable : Γ f_OneWayTable = c_OneWayTable) (h_s_OneWayTable : Γ f_s_OneWayTable = c_s_OneWayTable) (h_DrawOneWayMost : Γ f_DrawOneWayMost = c_DrawMostByNeed) (h_OneWayMost : Γ f_OneWayMost = c_OneWayMost) (h_s_OneWayMost : Γ f_s_OneWayMost = c_OneWayMost) (h_NeedOf : Γ f_NeedOf = c_NeedOf)  : Says P n c_x_OneWayNeeds := by
  refine Says.pure fun args r fs h => ?_
  split at h
  case h_2 => cases h
  rename_i v
  split at h
  case h_2 => cases h
  rename_i l hv
  split at h
  case isFalse => cases h
  rename_i hc
  simp only [Option.some.injEq, Prod.mk.injEq] at h
  obtain ⟨rfl, rfl⟩ := h
  by_cases hk : l.length > 65536
  · refine is.go hm hΓ k_x_OneWayNeeds o_x_OneWayNeeds (by simp [a_x_OneWayNeeds]) ?_
    simp only [a_x_OneWayNeeds, h_rBig, c_rBig, h_DrawOneWayNeed, c_DrawOneWayNeed, h_OneWayNeed, c_OneWayNeed, h_s_OneWayNeed, c_OneWayNeed, h_AreCounts, c_AreCounts, h_OneWaySplit, c_OneWaySplit, h_s_OneWaySplit, c_s_OneWaySplit, h_eqIntS, c_eqIntS, h_SavedOneWay, c_SavedOneWay, h_s_SavedOneWay, c_SavedOneWay, h_OneWayPaths, c_OneWayPaths, h_s_OneWayPaths, c_OneWayPaths, h_DrawSplitNeed, c_DrawSplitNeed, h_OneWayYes, c_OneWayYes, h_s_OneWayYes, c_s_OneWayYes, h_OneWayNo, c_OneWayNo, h_s_OneWayNo, c_s_OneWayNo, h_DrawOneWayTable, c_DrawNeedTable, h_OneWayTable, c_OneWayTable, h_s_OneWayTable, c_s_OneWayTable, h_DrawOneWayMost, c_DrawMostByNeed, h_OneWayMost, c_OneWayMost, h_s_OneWayMost, c_OneWayMost, h_NeedOf, c_NeedOf, hv, hk, List.zipIdx_cons, List.zipIdx_nil, ↓SP, SQ, SU, stepM, callC, argC, nmBy, stepD, stepW, fz, loadA, cellsA, binA, snap, thaw, fzAll, elemOf, partsA, buildA, putCells, ↓reduceIte, reduceCtorEq, okCell, Nat.reduceAdd, Nat.reduceEqDiff, Nat.reduceSub, Nat.reduceMul, Nat.reduceLeDiff, Nat.reduceLT, Nat.reduceBEq]
    exact finA_val (by simp [retA, rvA, mkE_cons, mk_nil, mkO_cons, mkO_nil, loadA, SV.tr, SV.trL, nmF, rn_nil, rn_cons1, rn_cons2, plainOb, SV.refsL, SV.refs, Ob.refs, X, F, List.range_succ, mkO, setO_mk]) (by simp [SV.tr, SV.trL])
  have hl := (slU_out hv).2
  obtain ⟨b1, b2, b3⟩ := cnR_b hl (cu0 0 (by omega))
  obtain ⟨b4, b5⟩ := spR_b hl b2 _ b3
  have q0 : (cnR l (0, 0)).1.length ≤ 1100000 := by omega
  have q1 : (spR l (cnR l (0, 0)).1 (cnR l (0, 0)).2).1.length ≤ 1100000 := by omega
  generalize hcc : (cnR l (0, 0)).1 = c at *
  generalize hss : (spR l c (cnR l (0, 0)).2).1 = s at *
  generalize hm1 : liV l (0, 0) = m1 at *
  generalize hm2 : liV l (pkC l 13 (0, 0)) = m2 at *
  generalize hqq : moV l = q at *
  have z0 : ([] : List Int).length ≤ 1100000 := by simp
  have irr : ¬ (0 : Int) < 0 := by omega

  have n0 : (noL c s).length ≤ 1100000 := by rw [noL_len]; exact q1
  have u1 := fun b => ite_len b s q1
  have u2 := fun b => ite_len b (noL c s) n0
  cases h1 : okC c with
  | false =>
    refine is.go hm hΓ k_x_OneWayNeeds o_x_OneWayNeeds (by simp [a_x_OneWayNeeds]) ?_
    simp only [a_x_OneWayNeeds, h_rBig, c_rBig, h_DrawOneWayNeed, c_DrawOneWayNeed, h_OneWayNeed, c_OneWayNeed, h_s_OneWayNeed, c_OneWayNeed, h_AreCounts, c_AreCounts, h_OneWaySplit, c_OneWaySplit, h_s_OneWaySplit, c_s_OneWaySplit, h_eqIntS, c_eqIntS, h_SavedOneWay, c_SavedOneWay, h_s_SavedOneWay, c_SavedOneWay, h_OneWayPaths, c_OneWayPaths, h_s_OneWayPaths, c_OneWayPaths, h_DrawSplitNeed, c_DrawSplitNeed, h_OneWayYes, c_OneWayYes, h_s_OneWayYes, c_s_OneWayYes, h_OneWayNo, c_OneWayNo, h_s_OneWayNo, c_s_OneWayNo, h_DrawOneWayTable, c_DrawNeedTable, h_OneWayTable, c_OneWayTable, h_s_OneWayTable, c_s_OneWayTable, h_DrawOneWayMost, c_DrawMostByNeed, h_OneWayMost, c_OneWayMost, h_s_OneWayMost, c_OneWayMost, h_NeedOf, c_NeedOf, h1, irr, u1, u2, hv, hk, hcc, hss, hm1, hm2, hqq, q0, q1, z0, slI_nil, slI_e, slI_sl, isI_ints, ofI_ints, ints_len, Bool.and_false, Bool.false_and, Bool.true_and, Bool.and_self, Bool.not_true, Bool.not_false, Bool.false_eq_true, bne_self_eq_false, beq_self_eq_true, ↓thaw_ow, ↓thaw_ow2, slI_ite, List.zipIdx_cons, List.zipIdx_nil, ↓SP, SQ, SU, stepM, callC, argC, nmBy, stepD, stepW, fz, loadA, cellsA, binA, snap, thaw, fzAll, elemOf, partsA, buildA, putCells, ↓reduceIte, reduceCtorEq, okCell, Nat.reduceAdd, Nat.reduceEqDiff, Nat.reduceSub, Nat.reduceMul, Nat.reduceLeDiff, Nat.reduceLT, Nat.reduceBEq]
    cases hT : (decide (0 ≤ m1) && decide (m1 ≤ 2)) with
    | false =>
      simp only [hT, h1, irr, u1, u2, hv, hk, hcc, hss, hm1, hm2, hqq, q0, q1, z0, slI_nil, slI_e, slI_sl, isI_ints, ofI_ints, ints_len, Bool.and_false, Bool.false_and, Bool.true_and, Bool.and_self, Bool.not_true, Bool.not_false, Bool.false_eq_true, bne_self_eq_false, beq_self_eq_true, ↓thaw_ow, ↓thaw_ow2, slI_ite, h_rBig, c_rBig, h_DrawOneWayNeed, c_DrawOneWayNeed, h_OneWayNeed, c_OneWayNeed, h_s_OneWayNeed, h_AreCounts, c_AreCounts, h_OneWaySplit, c_OneWaySplit, h_s_OneWaySplit, c_s_OneWaySplit, h_eqIntS, c_eqIntS, h_SavedOneWay, c_SavedOneWay, h_s_SavedOneWay, h_OneWayPaths, c_OneWayPaths, h_s_OneWayPaths, h_DrawSplitNeed, c_DrawSplitNeed, h_OneWayYes, c_OneWayYes, h_s_OneWayYes, c_s_OneWayYes, h_OneWayNo, c_OneWayNo, h_s_OneWayNo, c_s_OneWayNo, h_DrawOneWayTable, c_DrawNeedTable, h_OneWayTable, c_OneWayTable, h_s_OneWayTable, c_s_OneWayTable, h_DrawOneWayMost, c_DrawMostByNeed, h_OneWayMost, c_OneWayMost, h_s_OneWayMost, h_NeedOf, c_NeedOf, ↓SP, SQ, SU, stepM, callC, argC, nmBy, stepD, stepW, fz, loadA, cellsA, binA, snap, thaw, fzAll, elemOf, partsA, buildA, putCells, ↓reduceIte, reduceCtorEq, okCell, Nat.reduceAdd, Nat.reduceEqDiff, Nat.reduceSub, Nat.reduceMul, Nat.reduceLeDiff, Nat.reduceLT, Nat.reduceBEq]
      exact finA_val (by simp [retA, rvA, mkE_cons, mk_nil, mkO_cons, mkO_nil, loadA, SV.tr, SV.trL, nmF, rn_nil, rn_cons1, rn_cons2, plainOb, SV.refsL, SV.refs, Ob.refs, X, F, List.range_succ, mkO, setO_mk]) (by simp [SV.tr, SV.trL])
    | true =>
      have htl : (taF (gF false m1) 8).length ≤ 1100000 := by rw [taF_len]; omega
      cases hM : (decide (0 ≤ q) && decide (q ≤ 20) && (decide (0 ≤ m2) && decide (m2 ≤ 2))) with
      | false =>
        simp only [hT, hM, htl, h1, irr, u1, u2, hv, hk, hcc, hss, hm1, hm2, hqq, q0, q1, z0, slI_nil, slI_e, slI_sl, isI_ints, ofI_ints, ints_len, Bool.and_false, Bool.false_and, Bool.true_and, Bool.and_self, Bool.not_true, Bool.not_false, Bool.false_eq_true, bne_self_eq_false, beq_self_eq_true, ↓thaw_ow, ↓thaw_ow2, slI_ite, h_rBig, c_rBig, h_DrawOneWayNeed, c_DrawOneWayNeed, h_OneWayNeed, c_OneWayNeed, h_s_OneWayNeed, h_AreCounts, c_AreCounts, h_OneWaySplit, c_OneWaySplit, h_s_OneWaySplit, c_s_OneWaySplit, h_eqIntS, c_eqIntS, h_SavedOneWay, c_SavedOneWay, h_s_SavedOneWay, h_OneWayPaths, c_OneWayPaths, h_s_OneWayPaths, h_DrawSplitNeed, c_DrawSplitNeed, h_OneWayYes, c_OneWayYes, h_s_OneWayYes, c_s_OneWayYes, h_OneWayNo, c_OneWayNo, h_s_OneWayNo, c_s_OneWayNo, h_DrawOneWayTable, c_DrawNeedTable, h_OneWayTable, c_OneWayTable, h_s_OneWayTable, c_s_OneWayTable, h_DrawOneWayMost, c_DrawMostByNeed, h_OneWayMost, c_OneWayMost, h_s_OneWayMost, h_NeedOf, c_NeedOf, ↓SP, SQ, SU, stepM, callC, argC, nmBy, stepD, stepW, fz, loadA, cellsA, binA, snap, thaw, fzAll, elemOf, partsA, buildA, putCells, ↓reduceIte, reduceCtorEq, okCell, Nat.reduceAdd, Nat.reduceEqDiff, Nat.reduceSub, Nat.reduceMul, Nat.reduceLeDiff, Nat.reduceLT, Nat.reduceBEq]
        exact finA_val (by simp [retA, rvA, mkE_cons, mk_nil, mkO_cons, mkO_nil, loadA, SV.tr, SV.trL, nmF, rn_nil, rn_cons1, rn_cons2, plainOb, SV.refsL, SV.refs, Ob.refs, X, F, List.range_succ, mkO, setO_mk]) (by simp [SV.tr, SV.trL])
      | true =>
        by_cases hmm : m1 = m2
        · have hmb : (m1 == m2) = true := by simp [hmm]
          have hm1' : 0 ≤ m1 ∧ m1 ≤ 2 := by simpa using hT
          have hq' : 0 ≤ q := by simp only [Bool.and_eq_true, decide_eq_true_eq] at hM; exact hM.1.1
          obtain ⟨nn, en, n1, n9, ng, nu⟩ := moF_top (g := gF false m1) (q := q) (by rw [gF_1 false hm1']; exact hq') 9 (by omega)
          have hen : moF (gF false m2) q 9 = nn := by rw [← hmm]; exact en
          have hw : IntKind.i64.wrap ((nn : Int) - 1) = ((nn - 1 : Nat) : Int) := by rw [wrap64 (by omega) (by omega)]; omega
          have hg1 := ints_get (l := taF (gF false m1) 8) (i := nn - 1) (by rw [taF_len]; omega)
          rw [taF_get (by omega), show nn - 1 + 1 = nn by omega] at hg1
          have hng : ¬ gF false m1 nn > q := by omega
          have hnl : nn - 1 < (taF (gF false m1) 8).length := by rw [taF_len]; omega
          by_cases h8' : nn < 8
          · have hlt : (nn : Int) < ((taF (gF false m1) 8).length : Int) := by rw [taF_len]; omega
            have hlt2 : nn < (taF (gF false m1) 8).length := by rw [taF_len]; omega
            have hg2 := ints_get (l := taF (gF false m1) 8) (i := nn) (by rw [taF_len]; omega)
            rw [taF_get (by omega)] at hg2
            have hnu : ¬ gF false m1 (nn + 1) ≤ q := by have := nu (nn + 1) (by omega) (by omega); omega
            simp only [hT, hM, htl, hmb, hen, hw, hg1, hng, hnl, hlt, hlt2, hg2, hnu, Int.toNat_natCast, Int.natCast_nonneg, h1, irr, u1, u2, hv, hk, hcc, hss, hm1, hm2, hqq, q0, q1, z0, slI_nil, slI_e, slI_sl, isI_ints, ofI_ints, ints_len, Bool.and_false, Bool.false_and, Bool.true_and, Bool.and_self, Bool.not_true, Bool.not_false, Bool.false_eq_true, bne_self_eq_false, beq_self_eq_true, ↓thaw_ow, ↓thaw_ow2, slI_ite, h_rBig, c_rBig, h_DrawOneWayNeed, c_DrawOneWayNeed, h_OneWayNeed, c_OneWayNeed, h_s_OneWayNeed, h_AreCounts, c_AreCounts, h_OneWaySplit, c_OneWaySplit, h_s_OneWaySplit, c_s_OneWaySplit, h_eqIntS, c_eqIntS, h_SavedOneWay, c_SavedOneWay, h_s_SavedOneWay, h_OneWayPaths, c_OneWayPaths, h_s_OneWayPaths, h_DrawSplitNeed, c_DrawSplitNeed, h_OneWayYes, c_OneWayYes, h_s_OneWayYes, c_s_OneWayYes, h_OneWayNo, c_OneWayNo, h_s_OneWayNo, c_s_OneWayNo, h_DrawOneWayTable, c_DrawNeedTable, h_OneWayTable, c_OneWayTable, h_s_OneWayTable, c_s_OneWayTable, h_DrawOneWayMost, c_DrawMostByNeed, h_OneWayMost, c_OneWayMost, h_s_OneWayMost, h_NeedOf, c_NeedOf, ↓SP, SQ, SU, stepM, callC, argC, nmBy, stepD, stepW, fz, loadA, cellsA, binA, snap, thaw, fzAll, elemOf, partsA, buildA, putCells, ↓reduceIte, reduceCtorEq, okCell, Nat.reduceAdd, Nat.reduceEqDiff, Nat.reduceSub, Nat.reduceMul, Nat.reduceLeDiff, Nat.reduceLT, Nat.reduceBEq]
            exact finA_val (by simp [retA, rvA, mkE_cons, mk_nil, mkO_cons, mkO_nil, loadA, SV.tr, SV.trL, nmF, rn_nil, rn_cons1, rn_cons2, plainOb, SV.refsL, SV.refs, Ob.refs, X, F, List.range_succ, mkO, setO_mk]) (by simp [SV.tr, SV.trL])
          · have hlt : ¬ (nn : Int) < ((taF (gF false m1) 8).length : Int) := by rw [taF_len]; omega
            simp only [hT, hM, htl, hmb, hen, hw, hg1, hng, hnl, hlt, Int.toNat_natCast, Int.natCast_nonneg, h1, irr, u1, u2, hv, hk, hcc, hss, hm1, hm2, hqq, q0, q1, z0, slI_nil, slI_e, slI_sl, isI_ints, ofI_ints, ints_len, Bool.and_false, Bool.false_and, Bool.true_and, Bool.and_self, Bool.not_true, Bool.not_false, Bool.false_eq_true, bne_self_eq_false, beq_self_eq_true, ↓thaw_ow, ↓thaw_ow2, slI_ite, h_rBig, c_rBig, h_DrawOneWayNeed, c_DrawOneWayNeed, h_OneWayNeed, c_OneWayNeed, h_s_OneWayNeed, h_AreCounts, c_AreCounts, h_OneWaySplit, c_OneWaySplit, h_s_OneWaySplit, c_s_OneWaySplit, h_eqIntS, c_eqIntS, h_SavedOneWay, c_SavedOneWay, h_s_SavedOneWay, h_OneWayPaths, c_OneWayPaths, h_s_OneWayPaths, h_DrawSplitNeed, c_DrawSplitNeed, h_OneWayYes, c_OneWayYes, h_s_OneWayYes, c_s_OneWayYes, h_OneWayNo, c_OneWayNo, h_s_OneWayNo, c_s_OneWayNo, h_DrawOneWayTable, c_DrawNeedTable, h_OneWayTable, c_OneWayTable, h_s_OneWayTable, c_s_OneWayTable, h_DrawOneWayMost, c_DrawMostByNeed, h_OneWayMost, c_OneWayMost, h_s_OneWayMost, h_NeedOf, c_NeedOf, ↓SP, SQ, SU, stepM, callC, argC, nmBy, stepD, stepW, fz, loadA, cellsA, binA, snap, thaw, fzAll, elemOf, partsA, buildA, putCells, ↓reduceIte, reduceCtorEq, okCell, Nat.reduceAdd, Nat.reduceEqDiff, Nat.reduceSub, Nat.reduceMul, Nat.reduceLeDiff, Nat.reduceLT, Nat.reduceBEq]
            exact finA_val (by simp [retA, rvA, mkE_cons, mk_nil, mkO_cons, mkO_nil, loadA, SV.tr, SV.trL, nmF, rn_nil, rn_cons1, rn_cons2, plainOb, SV.refsL, SV.refs, Ob.refs, X, F, List.range_succ, mkO, setO_mk]) (by simp [SV.tr, SV.trL])
        · have hmb : (m1 == m2) = false := by simp [hmm]
          simp only [hT, hM, htl, hmb, h1, irr, u1, u2, hv, hk, hcc, hss, hm1, hm2, hqq, q0, q1, z0, slI_nil, slI_e, slI_sl, isI_ints, ofI_ints, ints_len, Bool.and_false, Bool.false_and, Bool.true_and, Bool.and_self, Bool.not_true, Bool.not_false, Bool.false_eq_true, bne_self_eq_false, beq_self_eq_true, ↓thaw_ow, ↓thaw_ow2, slI_ite, h_rBig, c_rBig, h_DrawOneWayNeed, c_DrawOneWayNeed, h_OneWayNeed, c_OneWayNeed, h_s_OneWayNeed, h_AreCounts, c_AreCounts, h_OneWaySplit, c_OneWaySplit, h_s_OneWaySplit, c_s_OneWaySplit, h_eqIntS, c_eqIntS, h_SavedOneWay, c_SavedOneWay, h_s_SavedOneWay, h_OneWayPaths, c_OneWayPaths, h_s_OneWayPaths, h_DrawSplitNeed, c_DrawSplitNeed, h_OneWayYes, c_OneWayYes, h_s_OneWayYes, c_s_OneWayYes, h_OneWayNo, c_OneWayNo, h_s_OneWayNo, c_s_OneWayNo, h_DrawOneWayTable, c_DrawNeedTable, h_OneWayTable, c_OneWayTable, h_s_OneWayTable, c_s_OneWayTable, h_DrawOneWayMost, c_DrawMostByNeed, h_OneWayMost, c_OneWayMost, h_s_OneWayMost, h_NeedOf, c_NeedOf, ↓SP, SQ, SU, stepM, callC, argC, nmBy, stepD, stepW, fz, loadA, cellsA, binA, snap, thaw, fzAll, elemOf, partsA, buildA, putCells, ↓reduceIte, reduceCtorEq, okCell, Nat.reduceAdd, Nat.reduceEqDiff, Nat.reduceSub, Nat.reduceMul, Nat.reduceLeDiff, Nat.reduceLT, Nat.reduceBEq]
          exact finA_val (by simp [retA, rvA, mkE_cons, mk_nil, mkO_cons, mkO_nil, loadA, SV.tr, SV.trL, nmF, rn_nil, rn_cons1, rn_cons2, plainOb, SV.refsL, SV.refs, Ob.refs, X, F, List.range_succ, mkO, setO_mk]) (by simp [SV.tr, SV.trL])
  | true =>
    have hsv : ¬ ndI true c - ndI false c < 0 := by have := nd_OB h1; omega
    obtain ⟨p1, p2⟩ := pth_all h1
    have p3 : ¬ (pth c).1 > (pth c).2 := by omega
    have p4 : ((pth c).2 != ndI false c) = false := by rw [p2]; exact bne_self_eq_false _
    have bt := ndI_bd true h1
    have bf := ndI_bd false h1
    have hws : IntKind.i64.wrap (ndI true c - ndI false c) = ndI true c - ndI false c := wrap64 (by omega) (by omega)
    obtain ⟨_, h8, _⟩ := okC_out h1
    have u3 : (if (!told c) = true then hdS c else []).length ≤ 1100000 := by
      cases h3 : told c with
      | true => simp
      | false => have := spl_len (HD.of h1 h3).mem; simp only [Bool.not_false, if_true]; omega
    refine is.go hm hΓ k_x_OneWayNeeds o_x_OneWayNeeds (by simp [a_x_OneWayNeeds]) ?_
    simp only [a_x_OneWayNeeds, h_rBig, c_rBig, h_DrawOneWayNeed, c_DrawOneWayNeed, h_OneWayNeed, c_OneWayNeed, h_s_OneWayNeed, c_OneWayNeed, h_AreCounts, c_AreCounts, h_OneWaySplit, c_OneWaySplit, h_s_OneWaySplit, c_s_OneWaySplit, h_eqIntS, c_eqIntS, h_SavedOneWay, c_SavedOneWay, h_s_SavedOneWay, c_SavedOneWay, h_OneWayPaths, c_OneWayPaths, h_s_OneWayPaths, c_OneWayPaths, h_DrawSplitNeed, c_DrawSplitNeed, h_OneWayYes, c_OneWayYes, h_s_OneWayYes, c_s_OneWayYes, h_OneWayNo, c_OneWayNo, h_s_OneWayNo, c_s_OneWayNo, h_DrawOneWayTable, c_DrawNeedTable, h_OneWayTable, c_OneWayTable, h_s_OneWayTable, c_s_OneWayTable, h_DrawOneWayMost, c_DrawMostByNeed, h_OneWayMost, c_OneWayMost, h_s_OneWayMost, c_OneWayMost, h_NeedOf, c_NeedOf, h1, hsv, p3, p4, hws, u1, u2, u3, hv, hk, hcc, hss, hm1, hm2, hqq, q0, q1, z0, slI_nil, slI_e, slI_sl, isI_ints, ofI_ints, ints_len, Bool.and_false, Bool.false_and, Bool.true_and, Bool.and_self, Bool.not_true, Bool.not_false, Bool.false_eq_true, bne_self_eq_false, beq_self_eq_true, ↓thaw_ow, ↓thaw_ow2, slI_ite, List.zipIdx_cons, List.zipIdx_nil, ↓SP, SQ, SU, stepM, callC, argC, nmBy, stepD, stepW, fz, loadA, cellsA, binA, snap, thaw, fzAll, elemOf, partsA, buildA, putCells, ↓reduceIte, reduceCtorEq, okCell, Nat.reduceAdd, Nat.reduceEqDiff, Nat.reduceSub, Nat.reduceMul, Nat.reduceLeDiff, Nat.reduceLT, Nat.reduceBEq]
    cases hT : (decide (0 ≤ m1) && decide (m1 ≤ 2)) with
    | false =>
      simp only [hT, h1, hsv, p3, p4, hws, u1, u2, u3, hv, hk, hcc, hss, hm1, hm2, hqq, q0, q1, z0, slI_nil, slI_e, slI_sl, isI_ints, ofI_ints, ints_len, Bool.and_false, Bool.false_and, Bool.true_and, Bool.and_self, Bool.not_true, Bool.not_false, Bool.false_eq_true, bne_self_eq_false, beq_self_eq_true, ↓thaw_ow, ↓thaw_ow2, slI_ite, h_rBig, c_rBig, h_DrawOneWayNeed, c_DrawOneWayNeed, h_OneWayNeed, c_OneWayNeed, h_s_OneWayNeed, h_AreCounts, c_AreCounts, h_OneWaySplit, c_OneWaySplit, h_s_OneWaySplit, c_s_OneWaySplit, h_eqIntS, c_eqIntS, h_SavedOneWay, c_SavedOneWay, h_s_SavedOneWay, h_OneWayPaths, c_OneWayPaths, h_s_OneWayPaths, h_DrawSplitNeed, c_DrawSplitNeed, h_OneWayYes, c_OneWayYes, h_s_OneWayYes, c_s_OneWayYes, h_OneWayNo, c_OneWayNo, h_s_OneWayNo, c_s_OneWayNo, h_DrawOneWayTable, c_DrawNeedTable, h_OneWayTable, c_OneWayTable, h_s_OneWayTable, c_s_OneWayTable, h_DrawOneWayMost, c_DrawMostByNeed, h_OneWayMost, c_OneWayMost, h_s_OneWayMost, h_NeedOf, c_NeedOf, ↓SP, SQ, SU, stepM, callC, argC, nmBy, stepD, stepW, fz, loadA, cellsA, binA, snap, thaw, fzAll, elemOf, partsA, buildA, putCells, ↓reduceIte, reduceCtorEq, okCell, Nat.reduceAdd, Nat.reduceEqDiff, Nat.reduceSub, Nat.reduceMul, Nat.reduceLeDiff, Nat.reduceLT, Nat.reduceBEq]
      cases h3 : told c with
      | true =>
        simp only [h3, hT, h1, hsv, p3, p4, hws, u1, u2, u3, hv, hk, hcc, hss, hm1, hm2, hqq, q0, q1, z0, slI_nil, slI_e, slI_sl, isI_ints, ofI_ints, ints_len, Bool.and_false, Bool.false_and, Bool.true_and, Bool.and_self, Bool.not_true, Bool.not_false, Bool.false_eq_true, bne_self_eq_false, beq_self_eq_true, ↓thaw_ow, ↓thaw_ow2, slI_ite, h_rBig, c_rBig, h_DrawOneWayNeed, c_DrawOneWayNeed, h_OneWayNeed, c_OneWayNeed, h_s_OneWayNeed, h_AreCounts, c_AreCounts, h_OneWaySplit, c_OneWaySplit, h_s_OneWaySplit, c_s_OneWaySplit, h_eqIntS, c_eqIntS, h_SavedOneWay, c_SavedOneWay, h_s_SavedOneWay, h_OneWayPaths, c_OneWayPaths, h_s_OneWayPaths, h_DrawSplitNeed, c_DrawSplitNeed, h_OneWayYes, c_OneWayYes, h_s_OneWayYes, c_s_OneWayYes, h_OneWayNo, c_OneWayNo, h_s_OneWayNo, c_s_OneWayNo, h_DrawOneWayTable, c_DrawNeedTable, h_OneWayTable, c_OneWayTable, h_s_OneWayTable, c_s_OneWayTable, h_DrawOneWayMost, c_DrawMostByNeed, h_OneWayMost, c_OneWayMost, h_s_OneWayMost, h_NeedOf, c_NeedOf, ↓SP, SQ, SU, stepM, callC, argC, nmBy, stepD, stepW, fz, loadA, cellsA, binA, snap, thaw, fzAll, elemOf, partsA, buildA, putCells, ↓reduceIte, reduceCtorEq, okCell, Nat.reduceAdd, Nat.reduceEqDiff, Nat.reduceSub, Nat.reduceMul, Nat.reduceLeDiff, Nat.reduceLT, Nat.reduceBEq]
        exact finA_val (by simp [retA, rvA, mkE_cons, mk_nil, mkO_cons, mkO_nil, loadA, SV.tr, SV.trL, nmF, rn_nil, rn_cons1, rn_cons2, plainOb, SV.refsL, SV.refs, Ob.refs, X, F, List.range_succ, mkO, setO_mk]) (by simp [SV.tr, SV.trL])
      | false =>
        have hD := HD.of h1 h3
        have hdo := spl_okSp h8 hD.mem
        have hdl := spl_len hD.mem
        have hd0 : (hdS c).length ≤ 1100000 := by omega
        have hd1 : (noL c (hdS c)).length ≤ 1100000 := by rw [noL_len]; exact hd0
        have hdn := hd_need h1 h3
        have o1 := hD.ok1
        have o2 := hD.ok2
        have l1 : ¬ ndI false (hdS c) ≥ ndI false c := by have := hD.lt1; omega
        have l2 : ¬ ndI false (noL c (hdS c)) ≥ ndI false c := by have := hD.lt2; omega
        have hwn : IntKind.i64.wrap (ndI false c - 1) = ndI false c - 1 := wrap64 (by omega) (by omega)
        simp only [h3, hdo, hd0, hd1, o1, o2, l1, l2, hwn, hT, h1, hsv, p3, p4, hws, u1, u2, u3, hv, hk, hcc, hss, hm1, hm2, hqq, q0, q1, z0, slI_nil, slI_e, slI_sl, isI_ints, ofI_ints, ints_len, Bool.and_false, Bool.false_and, Bool.true_and, Bool.and_self, Bool.not_true, Bool.not_false, Bool.false_eq_true, bne_self_eq_false, beq_self_eq_true, ↓thaw_ow, ↓thaw_ow2, slI_ite, h_rBig, c_rBig, h_DrawOneWayNeed, c_DrawOneWayNeed, h_OneWayNeed, c_OneWayNeed, h_s_OneWayNeed, h_AreCounts, c_AreCounts, h_OneWaySplit, c_OneWaySplit, h_s_OneWaySplit, c_s_OneWaySplit, h_eqIntS, c_eqIntS, h_SavedOneWay, c_SavedOneWay, h_s_SavedOneWay, h_OneWayPaths, c_OneWayPaths, h_s_OneWayPaths, h_DrawSplitNeed, c_DrawSplitNeed, h_OneWayYes, c_OneWayYes, h_s_OneWayYes, c_s_OneWayYes, h_OneWayNo, c_OneWayNo, h_s_OneWayNo, c_s_OneWayNo, h_DrawOneWayTable, c_DrawNeedTable, h_OneWayTable, c_OneWayTable, h_s_OneWayTable, c_s_OneWayTable, h_DrawOneWayMost, c_DrawMostByNeed, h_OneWayMost, c_OneWayMost, h_s_OneWayMost, h_NeedOf, c_NeedOf, ↓SP, SQ, SU, stepM, callC, argC, nmBy, stepD, stepW, fz, loadA, cellsA, binA, snap, thaw, fzAll, elemOf, partsA, buildA, putCells, ↓reduceIte, reduceCtorEq, okCell, Nat.reduceAdd, Nat.reduceEqDiff, Nat.reduceSub, Nat.reduceMul, Nat.reduceLeDiff, Nat.reduceLT, Nat.reduceBEq]
        by_cases hne : ndI false (hdS c) = ndI false c - 1
        · have e1 : (ndI false (hdS c) != ndI false c - 1) = false := by rw [hne]; exact bne_self_eq_false _
          simp only [e1, h3, hdo, hd0, hd1, o1, o2, l1, l2, hwn, hT, h1, hsv, p3, p4, hws, u1, u2, u3, hv, hk, hcc, hss, hm1, hm2, hqq, q0, q1, z0, slI_nil, slI_e, slI_sl, isI_ints, ofI_ints, ints_len, Bool.and_false, Bool.false_and, Bool.true_and, Bool.and_self, Bool.not_true, Bool.not_false, Bool.false_eq_true, bne_self_eq_false, beq_self_eq_true, ↓thaw_ow, ↓thaw_ow2, slI_ite, h_rBig, c_rBig, h_DrawOneWayNeed, c_DrawOneWayNeed, h_OneWayNeed, c_OneWayNeed, h_s_OneWayNeed, h_AreCounts, c_AreCounts, h_OneWaySplit, c_OneWaySplit, h_s_OneWaySplit, c_s_OneWaySplit, h_eqIntS, c_eqIntS, h_SavedOneWay, c_SavedOneWay, h_s_SavedOneWay, h_OneWayPaths, c_OneWayPaths, h_s_OneWayPaths, h_DrawSplitNeed, c_DrawSplitNeed, h_OneWayYes, c_OneWayYes, h_s_OneWayYes, c_s_OneWayYes, h_OneWayNo, c_OneWayNo, h_s_OneWayNo, c_s_OneWayNo, h_DrawOneWayTable, c_DrawNeedTable, h_OneWayTable, c_OneWayTable, h_s_OneWayTable, c_s_OneWayTable, h_DrawOneWayMost, c_DrawMostByNeed, h_OneWayMost, c_OneWayMost, h_s_OneWayMost, h_NeedOf, c_NeedOf, ↓SP, SQ, SU, stepM, callC, argC, nmBy, stepD, stepW, fz, loadA, cellsA, binA, snap, thaw, fzAll, elemOf, partsA, buildA, putCells, ↓reduceIte, reduceCtorEq, okCell, Nat.reduceAdd, Nat.reduceEqDiff, Nat.reduceSub, Nat.reduceMul, Nat.reduceLeDiff, Nat.reduceLT, Nat.reduceBEq]
          exact finA_val (by simp [retA, rvA, mkE_cons, mk_nil, mkO_cons, mkO_nil, loadA, SV.tr, SV.trL, nmF, rn_nil, rn_cons1, rn_cons2, plainOb, SV.refsL, SV.refs, Ob.refs, X, F, List.range_succ, mkO, setO_mk]) (by simp [SV.tr, SV.trL])
        · have e1 : (ndI false (hdS c) != ndI false c - 1) = true := bne_iff_ne.2 hne
          have e2 : (ndI false (noL c (hdS c)) != ndI false c - 1) = false := by
            have : ndI false (noL c (hdS c)) = ndI false c - 1 := by
              have h1 := hdn
              simp only [mxI] at h1
              split at h1 <;> omega
            rw [this]; exact bne_self_eq_false _
          simp only [e1, e2, h3, hdo, hd0, hd1, o1, o2, l1, l2, hwn, hT, h1, hsv, p3, p4, hws, u1, u2, u3, hv, hk, hcc, hss, hm1, hm2, hqq, q0, q1, z0, slI_nil, slI_e, slI_sl, isI_ints, ofI_ints, ints_len, Bool.and_false, Bool.false_and, Bool.true_and, Bool.and_self, Bool.not_true, Bool.not_false, Bool.false_eq_true, bne_self_eq_false, beq_self_eq_true, ↓thaw_ow, ↓thaw_ow2, slI_ite, h_rBig, c_rBig, h_DrawOneWayNeed, c_DrawOneWayNeed, h_OneWayNeed, c_OneWayNeed, h_s_OneWayNeed, h_AreCounts, c_AreCounts, h_OneWaySplit, c_OneWaySplit, h_s_OneWaySplit, c_s_OneWaySplit, h_eqIntS, c_eqIntS, h_SavedOneWay, c_SavedOneWay, h_s_SavedOneWay, h_OneWayPaths, c_OneWayPaths, h_s_OneWayPaths, h_DrawSplitNeed, c_DrawSplitNeed, h_OneWayYes, c_OneWayYes, h_s_OneWayYes, c_s_OneWayYes, h_OneWayNo, c_OneWayNo, h_s_OneWayNo, c_s_OneWayNo, h_DrawOneWayTable, c_DrawNeedTable, h_OneWayTable, c_OneWayTable, h_s_OneWayTable, c_s_OneWayTable, h_DrawOneWayMost, c_DrawMostByNeed, h_OneWayMost, c_OneWayMost, h_s_OneWayMost, h_NeedOf, c_NeedOf, ↓SP, SQ, SU, stepM, callC, argC, nmBy, stepD, stepW, fz, loadA, cellsA, binA, snap, thaw, fzAll, elemOf, partsA, buildA, putCells, ↓reduceIte, reduceCtorEq, okCell, Nat.reduceAdd, Nat.reduceEqDiff, Nat.reduceSub, Nat.reduceMul, Nat.reduceLeDiff, Nat.reduceLT, Nat.reduceBEq]
          exact finA_val (by simp [retA, rvA, mkE_cons, mk_nil, mkO_cons, mkO_nil, loadA, SV.tr, SV.trL, nmF, rn_nil, rn_cons1, rn_cons2, plainOb, SV.refsL, SV.refs, Ob.refs, X, F, List.range_succ, mkO, setO_mk]) (by simp [SV.tr, SV.trL])
    | true =>
      have htl : (taF (gF false m1) 8).length ≤ 1100000 := by rw [taF_len]; omega
      cases hM : (decide (0 ≤ q) && decide (q ≤ 20) && (decide (0 ≤ m2) && decide (m2 ≤ 2))) with
      | false =>
        simp only [hT, hM, htl, h1, hsv, p3, p4, hws, u1, u2, u3, hv, hk, hcc, hss, hm1, hm2, hqq, q0, q1, z0, slI_nil, slI_e, slI_sl, isI_ints, ofI_ints, ints_len, Bool.and_false, Bool.false_and, Bool.true_and, Bool.and_self, Bool.not_true, Bool.not_false, Bool.false_eq_true, bne_self_eq_false, beq_self_eq_true, ↓thaw_ow, ↓thaw_ow2, slI_ite, h_rBig, c_rBig, h_DrawOneWayNeed, c_DrawOneWayNeed, h_OneWayNeed, c_OneWayNeed, h_s_OneWayNeed, h_AreCounts, c_AreCounts, h_OneWaySplit, c_OneWaySplit, h_s_OneWaySplit, c_s_OneWaySplit, h_eqIntS, c_eqIntS, h_SavedOneWay, c_SavedOneWay, h_s_SavedOneWay, h_OneWayPaths, c_OneWayPaths, h_s_OneWayPaths, h_DrawSplitNeed, c_DrawSplitNeed, h_OneWayYes, c_OneWayYes, h_s_OneWayYes, c_s_OneWayYes, h_OneWayNo, c_OneWayNo, h_s_OneWayNo, c_s_OneWayNo, h_DrawOneWayTable, c_DrawNeedTable, h_OneWayTable, c_OneWayTable, h_s_OneWayTable, c_s_OneWayTable, h_DrawOneWayMost, c_DrawMostByNeed, h_OneWayMost, c_OneWayMost, h_s_OneWayMost, h_NeedOf, c_NeedOf, ↓SP, SQ, SU, stepM, callC, argC, nmBy, stepD, stepW, fz, loadA, cellsA, binA, snap, thaw, fzAll, elemOf, partsA, buildA, putCells, ↓reduceIte, reduceCtorEq, okCell, Nat.reduceAdd, Nat.reduceEqDiff, Nat.reduceSub, Nat.reduceMul, Nat.reduceLeDiff, Nat.reduceLT, Nat.reduceBEq]
        cases h3 : told c with
        | true =>
          simp only [h3, hT, hM, htl, h1, hsv, p3, p4, hws, u1, u2, u3, hv, hk, hcc, hss, hm1, hm2, hqq, q0, q1, z0, slI_nil, slI_e, slI_sl, isI_ints, ofI_ints, ints_len, Bool.and_false, Bool.false_and, Bool.true_and, Bool.and_self, Bool.not_true, Bool.not_false, Bool.false_eq_true, bne_self_eq_false, beq_self_eq_true, ↓thaw_ow, ↓thaw_ow2, slI_ite, h_rBig, c_rBig, h_DrawOneWayNeed, c_DrawOneWayNeed, h_OneWayNeed, c_OneWayNeed, h_s_OneWayNeed, h_AreCounts, c_AreCounts, h_OneWaySplit, c_OneWaySplit, h_s_OneWaySplit, c_s_OneWaySplit, h_eqIntS, c_eqIntS, h_SavedOneWay, c_SavedOneWay, h_s_SavedOneWay, h_OneWayPaths, c_OneWayPaths, h_s_OneWayPaths, h_DrawSplitNeed, c_DrawSplitNeed, h_OneWayYes, c_OneWayYes, h_s_OneWayYes, c_s_OneWayYes, h_OneWayNo, c_OneWayNo, h_s_OneWayNo, c_s_OneWayNo, h_DrawOneWayTable, c_DrawNeedTable, h_OneWayTable, c_OneWayTable, h_s_OneWayTable, c_s_OneWayTable, h_DrawOneWayMost, c_DrawMostByNeed, h_OneWayMost, c_OneWayMost, h_s_OneWayMost, h_NeedOf, c_NeedOf, ↓SP, SQ, SU, stepM, callC, argC, nmBy, stepD, stepW, fz, loadA, cellsA, binA, snap, thaw, fzAll, elemOf, partsA, buildA, putCells, ↓reduceIte, reduceCtorEq, okCell, Nat.reduceAdd, Nat.reduceEqDiff, Nat.reduceSub, Nat.reduceMul, Nat.reduceLeDiff, Nat.reduceLT, Nat.reduceBEq]
          exact finA_val (by simp [retA, rvA, mkE_cons, mk_nil, mkO_cons, mkO_nil, loadA, SV.tr, SV.trL, nmF, rn_nil, rn_cons1, rn_cons2, plainOb, SV.refsL, SV.refs, Ob.refs, X, F, List.range_succ, mkO, setO_mk]) (by simp [SV.tr, SV.trL])
        | false =>
          have hD := HD.of h1 h3
          have hdo := spl_okSp h8 hD.mem
          have hdl := spl_len hD.mem
          have hd0 : (hdS c).length ≤ 1100000 := by omega
          have hd1 : (noL c (hdS c)).length ≤ 1100000 := by rw [noL_len]; exact hd0
          have hdn := hd_need h1 h3
          have o1 := hD.ok1
          have o2 := hD.ok2
          have l1 : ¬ ndI false (hdS c) ≥ ndI false c := by have := hD.lt1; omega
          have l2 : ¬ ndI false (noL c (hdS c)) ≥ ndI false c := by have := hD.lt2; omega
          have hwn : IntKind.i64.wrap (ndI false c - 1) = ndI false c - 1 := wrap64 (by omega) (by omega)
          simp only [h3, hdo, hd0, hd1, o1, o2, l1, l2, hwn, hT, hM, htl, h1, hsv, p3, p4, hws, u1, u2, u3, hv, hk, hcc, hss, hm1, hm2, hqq, q0, q1, z0, slI_nil, slI_e, slI_sl, isI_ints, ofI_ints, ints_len, Bool.and_false, Bool.false_and, Bool.true_and, Bool.and_self, Bool.not_true, Bool.not_false, Bool.false_eq_true, bne_self_eq_false, beq_self_eq_true, ↓thaw_ow, ↓thaw_ow2, slI_ite, h_rBig, c_rBig, h_DrawOneWayNeed, c_DrawOneWayNeed, h_OneWayNeed, c_OneWayNeed, h_s_OneWayNeed, h_AreCounts, c_AreCounts, h_OneWaySplit, c_OneWaySplit, h_s_OneWaySplit, c_s_OneWaySplit, h_eqIntS, c_eqIntS, h_SavedOneWay, c_SavedOneWay, h_s_SavedOneWay, h_OneWayPaths, c_OneWayPaths, h_s_OneWayPaths, h_DrawSplitNeed, c_DrawSplitNeed, h_OneWayYes, c_OneWayYes, h_s_OneWayYes, c_s_OneWayYes, h_OneWayNo, c_OneWayNo, h_s_OneWayNo, c_s_OneWayNo, h_DrawOneWayTable, c_DrawNeedTable, h_OneWayTable, c_OneWayTable, h_s_OneWayTable, c_s_OneWayTable, h_DrawOneWayMost, c_DrawMostByNeed, h_OneWayMost, c_OneWayMost, h_s_OneWayMost, h_NeedOf, c_NeedOf, ↓SP, SQ, SU, stepM, callC, argC, nmBy, stepD, stepW, fz, loadA, cellsA, binA, snap, thaw, fzAll, elemOf, partsA, buildA, putCells, ↓reduceIte, reduceCtorEq, okCell, Nat.reduceAdd, Nat.reduceEqDiff, Nat.reduceSub, Nat.reduceMul, Nat.reduceLeDiff, Nat.reduceLT, Nat.reduceBEq]
          by_cases hne : ndI false (hdS c) = ndI false c - 1
          · have e1 : (ndI false (hdS c) != ndI false c - 1) = false := by rw [hne]; exact bne_self_eq_false _
            simp only [e1, h3, hdo, hd0, hd1, o1, o2, l1, l2, hwn, hT, hM, htl, h1, hsv, p3, p4, hws, u1, u2, u3, hv, hk, hcc, hss, hm1, hm2, hqq, q0, q1, z0, slI_nil, slI_e, slI_sl, isI_ints, ofI_ints, ints_len, Bool.and_false, Bool.false_and, Bool.true_and, Bool.and_self, Bool.not_true, Bool.not_false, Bool.false_eq_true, bne_self_eq_false, beq_self_eq_true, ↓thaw_ow, ↓thaw_ow2, slI_ite, h_rBig, c_rBig, h_DrawOneWayNeed, c_DrawOneWayNeed, h_OneWayNeed, c_OneWayNeed, h_s_OneWayNeed, h_AreCounts, c_AreCounts, h_OneWaySplit, c_OneWaySplit, h_s_OneWaySplit, c_s_OneWaySplit, h_eqIntS, c_eqIntS, h_SavedOneWay, c_SavedOneWay, h_s_SavedOneWay, h_OneWayPaths, c_OneWayPaths, h_s_OneWayPaths, h_DrawSplitNeed, c_DrawSplitNeed, h_OneWayYes, c_OneWayYes, h_s_OneWayYes, c_s_OneWayYes, h_OneWayNo, c_OneWayNo, h_s_OneWayNo, c_s_OneWayNo, h_DrawOneWayTable, c_DrawNeedTable, h_OneWayTable, c_OneWayTable, h_s_OneWayTable, c_s_OneWayTable, h_DrawOneWayMost, c_DrawMostByNeed, h_OneWayMost, c_OneWayMost, h_s_OneWayMost, h_NeedOf, c_NeedOf, ↓SP, SQ, SU, stepM, callC, argC, nmBy, stepD, stepW, fz, loadA, cellsA, binA, snap, thaw, fzAll, elemOf, partsA, buildA, putCells, ↓reduceIte, reduceCtorEq, okCell, Nat.reduceAdd, Nat.reduceEqDiff, Nat.reduceSub, Nat.reduceMul, Nat.reduceLeDiff, Nat.reduceLT, Nat.reduceBEq]
            exact finA_val (by simp [retA, rvA, mkE_cons, mk_nil, mkO_cons, mkO_nil, loadA, SV.tr, SV.trL, nmF, rn_nil, rn_cons1, rn_cons2, plainOb, SV.refsL, SV.refs, Ob.refs, X, F, List.range_succ, mkO, setO_mk]) (by simp [SV.tr, SV.trL])
          · have e1 : (ndI false (hdS c) != ndI false c - 1) = true := bne_iff_ne.2 hne
            have e2 : (ndI false (noL c (hdS c)) != ndI false c - 1) = false := by
              have : ndI false (noL c (hdS c)) = ndI false c - 1 := by
                have h1 := hdn
                simp only [mxI] at h1
                split at h1 <;> omega
              rw [this]; exact bne_self_eq_false _
            simp only [e1, e2, h3, hdo, hd0, hd1, o1, o2, l1, l2, hwn, hT, hM, htl, h1, hsv, p3, p4, hws, u1, u2, u3, hv, hk, hcc, hss, hm1, hm2, hqq, q0, q1, z0, slI_nil, slI_e, slI_sl, isI_ints, ofI_ints, ints_len, Bool.and_false, Bool.false_and, Bool.true_and, Bool.and_self, Bool.not_true, Bool.not_false, Bool.false_eq_true, bne_self_eq_false, beq_self_eq_true, ↓thaw_ow, ↓thaw_ow2, slI_ite, h_rBig, c_rBig, h_DrawOneWayNeed, c_DrawOneWayNeed, h_OneWayNeed, c_OneWayNeed, h_s_OneWayNeed, h_AreCounts, c_AreCounts, h_OneWaySplit, c_OneWaySplit, h_s_OneWaySplit, c_s_OneWaySplit, h_eqIntS, c_eqIntS, h_SavedOneWay, c_SavedOneWay, h_s_SavedOneWay, h_OneWayPaths, c_OneWayPaths, h_s_OneWayPaths, h_DrawSplitNeed, c_DrawSplitNeed, h_OneWayYes, c_OneWayYes, h_s_OneWayYes, c_s_OneWayYes, h_OneWayNo, c_OneWayNo, h_s_OneWayNo, c_s_OneWayNo, h_DrawOneWayTable, c_DrawNeedTable, h_OneWayTable, c_OneWayTable, h_s_OneWayTable, c_s_OneWayTable, h_DrawOneWayMost, c_DrawMostByNeed, h_OneWayMost, c_OneWayMost, h_s_OneWayMost, h_NeedOf, c_NeedOf, ↓SP, SQ, SU, stepM, callC, argC, nmBy, stepD, stepW, fz, loadA, cellsA, binA, snap, thaw, fzAll, elemOf, partsA, buildA, putCells, ↓reduceIte, reduceCtorEq, okCell, Nat.reduceAdd, Nat.reduceEqDiff, Nat.reduceSub, Nat.reduceMul, Nat.reduceLeDiff, Nat.reduceLT, Nat.reduceBEq]
            exact finA_val (by simp [retA, rvA, mkE_cons, mk_nil, mkO_cons, mkO_nil, loadA, SV.tr, SV.trL, nmF, rn_nil, rn_cons1, rn_cons2, plainOb, SV.refsL, SV.refs, Ob.refs, X, F, List.range_succ, mkO, setO_mk]) (by simp [SV.tr, SV.trL])
      | true =>
        by_cases hmm : m1 = m2
        · have hmb : (m1 == m2) = true := by simp [hmm]
          have hm1' : 0 ≤ m1 ∧ m1 ≤ 2 := by simpa using hT
          have hq' : 0 ≤ q := by simp only [Bool.and_eq_true, decide_eq_true_eq] at hM; exact hM.1.1
          obtain ⟨nn, en, n1, n9, ng, nu⟩ := moF_top (g := gF false m1) (q := q) (by rw [gF_1 false hm1']; exact hq') 9 (by omega)
          have hen : moF (gF false m2) q 9 = nn := by rw [← hmm]; exact en
          have hw : IntKind.i64.wrap ((nn : Int) - 1) = ((nn - 1 : Nat) : Int) := by rw [wrap64 (by omega) (by omega)]; omega
          have hg1 := ints_get (l := taF (gF false m1) 8) (i := nn - 1) (by rw [taF_len]; omega)
          rw [taF_get (by omega), show nn - 1 + 1 = nn by omega] at hg1
          have hng : ¬ gF false m1 nn > q := by omega
          have hnl : nn - 1 < (taF (gF false m1) 8).length := by rw [taF_len]; omega
          by_cases h8' : nn < 8
          · have hlt : (nn : Int) < ((taF (gF false m1) 8).length : Int) := by rw [taF_len]; omega
            have hlt2 : nn < (taF (gF false m1) 8).length := by rw [taF_len]; omega
            have hg2 := ints_get (l := taF (gF false m1) 8) (i := nn) (by rw [taF_len]; omega)
            rw [taF_get (by omega)] at hg2
            have hnu : ¬ gF false m1 (nn + 1) ≤ q := by have := nu (nn + 1) (by omega) (by omega); omega
            simp only [hT, hM, htl, hmb, hen, hw, hg1, hng, hnl, hlt, hlt2, hg2, hnu, Int.toNat_natCast, Int.natCast_nonneg, h1, hsv, p3, p4, hws, u1, u2, u3, hv, hk, hcc, hss, hm1, hm2, hqq, q0, q1, z0, slI_nil, slI_e, slI_sl, isI_ints, ofI_ints, ints_len, Bool.and_false, Bool.false_and, Bool.true_and, Bool.and_self, Bool.not_true, Bool.not_false, Bool.false_eq_true, bne_self_eq_false, beq_self_eq_true, ↓thaw_ow, ↓thaw_ow2, slI_ite, h_rBig, c_rBig, h_DrawOneWayNeed, c_DrawOneWayNeed, h_OneWayNeed, c_OneWayNeed, h_s_OneWayNeed, h_AreCounts, c_AreCounts, h_OneWaySplit, c_OneWaySplit, h_s_OneWaySplit, c_s_OneWaySplit, h_eqIntS, c_eqIntS, h_SavedOneWay, c_SavedOneWay, h_s_SavedOneWay, h_OneWayPaths, c_OneWayPaths, h_s_OneWayPaths, h_DrawSplitNeed, c_DrawSplitNeed, h_OneWayYes, c_OneWayYes, h_s_OneWayYes, c_s_OneWayYes, h_OneWayNo, c_OneWayNo, h_s_OneWayNo, c_s_OneWayNo, h_DrawOneWayTable, c_DrawNeedTable, h_OneWayTable, c_OneWayTable, h_s_OneWayTable, c_s_OneWayTable, h_DrawOneWayMost, c_DrawMostByNeed, h_OneWayMost, c_OneWayMost, h_s_OneWayMost, h_NeedOf, c_NeedOf, ↓SP, SQ, SU, stepM, callC, argC, nmBy, stepD, stepW, fz, loadA, cellsA, binA, snap, thaw, fzAll, elemOf, partsA, buildA, putCells, ↓reduceIte, reduceCtorEq, okCell, Nat.reduceAdd, Nat.reduceEqDiff, Nat.reduceSub, Nat.reduceMul, Nat.reduceLeDiff, Nat.reduceLT, Nat.reduceBEq]
            cases h3 : told c with
            | true =>
              simp only [h3, hT, hM, htl, hmb, hen, hw, hg1, hng, hnl, hlt, hlt2, hg2, hnu, Int.toNat_natCast, Int.natCast_nonneg, h1, hsv, p3, p4, hws, u1, u2, u3, hv, hk, hcc, hss, hm1, hm2, hqq, q0, q1, z0, slI_nil, slI_e, slI_sl, isI_ints, ofI_ints, ints_len, Bool.and_false, Bool.false_and, Bool.true_and, Bool.and_self, Bool.not_true, Bool.not_false, Bool.false_eq_true, bne_self_eq_false, beq_self_eq_true, ↓thaw_ow, ↓thaw_ow2, slI_ite, h_rBig, c_rBig, h_DrawOneWayNeed, c_DrawOneWayNeed, h_OneWayNeed, c_OneWayNeed, h_s_OneWayNeed, h_AreCounts, c_AreCounts, h_OneWaySplit, c_OneWaySplit, h_s_OneWaySplit, c_s_OneWaySplit, h_eqIntS, c_eqIntS, h_SavedOneWay, c_SavedOneWay, h_s_SavedOneWay, h_OneWayPaths, c_OneWayPaths, h_s_OneWayPaths, h_DrawSplitNeed, c_DrawSplitNeed, h_OneWayYes, c_OneWayYes, h_s_OneWayYes, c_s_OneWayYes, h_OneWayNo, c_OneWayNo, h_s_OneWayNo, c_s_OneWayNo, h_DrawOneWayTable, c_DrawNeedTable, h_OneWayTable, c_OneWayTable, h_s_OneWayTable, c_s_OneWayTable, h_DrawOneWayMost, c_DrawMostByNeed, h_OneWayMost, c_OneWayMost, h_s_OneWayMost, h_NeedOf, c_NeedOf, ↓SP, SQ, SU, stepM, callC, argC, nmBy, stepD, stepW, fz, loadA, cellsA, binA, snap, thaw, fzAll, elemOf, partsA, buildA, putCells, ↓reduceIte, reduceCtorEq, okCell, Nat.reduceAdd, Nat.reduceEqDiff, Nat.reduceSub, Nat.reduceMul, Nat.reduceLeDiff, Nat.reduceLT, Nat.reduceBEq]
              exact finA_val (by simp [retA, rvA, mkE_cons, mk_nil, mkO_cons, mkO_nil, loadA, SV.tr, SV.trL, nmF, rn_nil, rn_cons1, rn_cons2, plainOb, SV.refsL, SV.refs, Ob.refs, X, F, List.range_succ, mkO, setO_mk]) (by simp [SV.tr, SV.trL])
            | false =>
              have hD := HD.of h1 h3
              have hdo := spl_okSp h8 hD.mem
              have hdl := spl_len hD.mem
              have hd0 : (hdS c).length ≤ 1100000 := by omega
              have hd1 : (noL c (hdS c)).length ≤ 1100000 := by rw [noL_len]; exact hd0
              have hdn := hd_need h1 h3
              have o1 := hD.ok1
              have o2 := hD.ok2
              have l1 : ¬ ndI false (hdS c) ≥ ndI false c := by have := hD.lt1; omega
              have l2 : ¬ ndI false (noL c (hdS c)) ≥ ndI false c := by have := hD.lt2; omega
              have hwn : IntKind.i64.wrap (ndI false c - 1) = ndI false c - 1 := wrap64 (by omega) (by omega)
              simp only [h3, hdo, hd0, hd1, o1, o2, l1, l2, hwn, hT, hM, htl, hmb, hen, hw, hg1, hng, hnl, hlt, hlt2, hg2, hnu, Int.toNat_natCast, Int.natCast_nonneg, h1, hsv, p3, p4, hws, u1, u2, u3, hv, hk, hcc, hss, hm1, hm2, hqq, q0, q1, z0, slI_nil, slI_e, slI_sl, isI_ints, ofI_ints, ints_len, Bool.and_false, Bool.false_and, Bool.true_and, Bool.and_self, Bool.not_true, Bool.not_false, Bool.false_eq_true, bne_self_eq_false, beq_self_eq_true, ↓thaw_ow, ↓thaw_ow2, slI_ite, h_rBig, c_rBig, h_DrawOneWayNeed, c_DrawOneWayNeed, h_OneWayNeed, c_OneWayNeed, h_s_OneWayNeed, h_AreCounts, c_AreCounts, h_OneWaySplit, c_OneWaySplit, h_s_OneWaySplit, c_s_OneWaySplit, h_eqIntS, c_eqIntS, h_SavedOneWay, c_SavedOneWay, h_s_SavedOneWay, h_OneWayPaths, c_OneWayPaths, h_s_OneWayPaths, h_DrawSplitNeed, c_DrawSplitNeed, h_OneWayYes, c_OneWayYes, h_s_OneWayYes, c_s_OneWayYes, h_OneWayNo, c_OneWayNo, h_s_OneWayNo, c_s_OneWayNo, h_DrawOneWayTable, c_DrawNeedTable, h_OneWayTable, c_OneWayTable, h_s_OneWayTable, c_s_OneWayTable, h_DrawOneWayMost, c_DrawMostByNeed, h_OneWayMost, c_OneWayMost, h_s_OneWayMost, h_NeedOf, c_NeedOf, ↓SP, SQ, SU, stepM, callC, argC, nmBy, stepD, stepW, fz, loadA, cellsA, binA, snap, thaw, fzAll, elemOf, partsA, buildA, putCells, ↓reduceIte, reduceCtorEq, okCell, Nat.reduceAdd, Nat.reduceEqDiff, Nat.reduceSub, Nat.reduceMul, Nat.reduceLeDiff, Nat.reduceLT, Nat.reduceBEq]
              by_cases hne : ndI false (hdS c) = ndI false c - 1
              · have e1 : (ndI false (hdS c) != ndI false c - 1) = false := by rw [hne]; exact bne_self_eq_false _
                simp only [e1, h3, hdo, hd0, hd1, o1, o2, l1, l2, hwn, hT, hM, htl, hmb, hen, hw, hg1, hng, hnl, hlt, hlt2, hg2, hnu, Int.toNat_natCast, Int.natCast_nonneg, h1, hsv, p3, p4, hws, u1, u2, u3, hv, hk, hcc, hss, hm1, hm2, hqq, q0, q1, z0, slI_nil, slI_e, slI_sl, isI_ints, ofI_ints, ints_len, Bool.and_false, Bool.false_and, Bool.true_and, Bool.and_self, Bool.not_true, Bool.not_false, Bool.false_eq_true, bne_self_eq_false, beq_self_eq_true, ↓thaw_ow, ↓thaw_ow2, slI_ite, h_rBig, c_rBig, h_DrawOneWayNeed, c_DrawOneWayNeed, h_OneWayNeed, c_OneWayNeed, h_s_OneWayNeed, h_AreCounts, c_AreCounts, h_OneWaySplit, c_OneWaySplit, h_s_OneWaySplit, c_s_OneWaySplit, h_eqIntS, c_eqIntS, h_SavedOneWay, c_SavedOneWay, h_s_SavedOneWay, h_OneWayPaths, c_OneWayPaths, h_s_OneWayPaths, h_DrawSplitNeed, c_DrawSplitNeed, h_OneWayYes, c_OneWayYes, h_s_OneWayYes, c_s_OneWayYes, h_OneWayNo, c_OneWayNo, h_s_OneWayNo, c_s_OneWayNo, h_DrawOneWayTable, c_DrawNeedTable, h_OneWayTable, c_OneWayTable, h_s_OneWayTable, c_s_OneWayTable, h_DrawOneWayMost, c_DrawMostByNeed, h_OneWayMost, c_OneWayMost, h_s_OneWayMost, h_NeedOf, c_NeedOf, ↓SP, SQ, SU, stepM, callC, argC, nmBy, stepD, stepW, fz, loadA, cellsA, binA, snap, thaw, fzAll, elemOf, partsA, buildA, putCells, ↓reduceIte, reduceCtorEq, okCell, Nat.reduceAdd, Nat.reduceEqDiff, Nat.reduceSub, Nat.reduceMul, Nat.reduceLeDiff, Nat.reduceLT, Nat.reduceBEq]
                exact finA_val (by simp [retA, rvA, mkE_cons, mk_nil, mkO_cons, mkO_nil, loadA, SV.tr, SV.trL, nmF, rn_nil, rn_cons1, rn_cons2, plainOb, SV.refsL, SV.refs, Ob.refs, X, F, List.range_succ, mkO, setO_mk]) (by simp [SV.tr, SV.trL])
              · have e1 : (ndI false (hdS c) != ndI false c - 1) = true := bne_iff_ne.2 hne
                have e2 : (ndI false (noL c (hdS c)) != ndI false c - 1) = false := by
                  have : ndI false (noL c (hdS c)) = ndI false c - 1 := by
                    have h1 := hdn
                    simp only [mxI] at h1
                    split at h1 <;> omega
                  rw [this]; exact bne_self_eq_false _
                simp only [e1, e2, h3, hdo, hd0, hd1, o1, o2, l1, l2, hwn, hT, hM, htl, hmb, hen, hw, hg1, hng, hnl, hlt, hlt2, hg2, hnu, Int.toNat_natCast, Int.natCast_nonneg, h1, hsv, p3, p4, hws, u1, u2, u3, hv, hk, hcc, hss, hm1, hm2, hqq, q0, q1, z0, slI_nil, slI_e, slI_sl, isI_ints, ofI_ints, ints_len, Bool.and_false, Bool.false_and, Bool.true_and, Bool.and_self, Bool.not_true, Bool.not_false, Bool.false_eq_true, bne_self_eq_false, beq_self_eq_true, ↓thaw_ow, ↓thaw_ow2, slI_ite, h_rBig, c_rBig, h_DrawOneWayNeed, c_DrawOneWayNeed, h_OneWayNeed, c_OneWayNeed, h_s_OneWayNeed, h_AreCounts, c_AreCounts, h_OneWaySplit, c_OneWaySplit, h_s_OneWaySplit, c_s_OneWaySplit, h_eqIntS, c_eqIntS, h_SavedOneWay, c_SavedOneWay, h_s_SavedOneWay, h_OneWayPaths, c_OneWayPaths, h_s_OneWayPaths, h_DrawSplitNeed, c_DrawSplitNeed, h_OneWayYes, c_OneWayYes, h_s_OneWayYes, c_s_OneWayYes, h_OneWayNo, c_OneWayNo, h_s_OneWayNo, c_s_OneWayNo, h_DrawOneWayTable, c_DrawNeedTable, h_OneWayTable, c_OneWayTable, h_s_OneWayTable, c_s_OneWayTable, h_DrawOneWayMost, c_DrawMostByNeed, h_OneWayMost, c_OneWayMost, h_s_OneWayMost, h_NeedOf, c_NeedOf, ↓SP, SQ, SU, stepM, callC, argC, nmBy, stepD, stepW, fz, loadA, cellsA, binA, snap, thaw, fzAll, elemOf, partsA, buildA, putCells, ↓reduceIte, reduceCtorEq, okCell, Nat.reduceAdd, Nat.reduceEqDiff, Nat.reduceSub, Nat.reduceMul, Nat.reduceLeDiff, Nat.reduceLT, Nat.reduceBEq]
                exact finA_val (by simp [retA, rvA, mkE_cons, mk_nil, mkO_cons, mkO_nil, loadA, SV.tr, SV.trL, nmF, rn_nil, rn_cons1, rn_cons2, plainOb, SV.refsL, SV.refs, Ob.refs, X, F, List.range_succ, mkO, setO_mk]) (by simp [SV.tr, SV.trL])
          · have hlt : ¬ (nn : Int) < ((taF (gF false m1) 8).length : Int) := by rw [taF_len]; omega
            simp only [hT, hM, htl, hmb, hen, hw, hg1, hng, hnl, hlt, Int.toNat_natCast, Int.natCast_nonneg, h1, hsv, p3, p4, hws, u1, u2, u3, hv, hk, hcc, hss, hm1, hm2, hqq, q0, q1, z0, slI_nil, slI_e, slI_sl, isI_ints, ofI_ints, ints_len, Bool.and_false, Bool.false_and, Bool.true_and, Bool.and_self, Bool.not_true, Bool.not_false, Bool.false_eq_true, bne_self_eq_false, beq_self_eq_true, ↓thaw_ow, ↓thaw_ow2, slI_ite, h_rBig, c_rBig, h_DrawOneWayNeed, c_DrawOneWayNeed, h_OneWayNeed, c_OneWayNeed, h_s_OneWayNeed, h_AreCounts, c_AreCounts, h_OneWaySplit, c_OneWaySplit, h_s_OneWaySplit, c_s_OneWaySplit, h_eqIntS, c_eqIntS, h_SavedOneWay, c_SavedOneWay, h_s_SavedOneWay, h_OneWayPaths, c_OneWayPaths, h_s_OneWayPaths, h_DrawSplitNeed, c_DrawSplitNeed, h_OneWayYes, c_OneWayYes, h_s_OneWayYes, c_s_OneWayYes, h_OneWayNo, c_OneWayNo, h_s_OneWayNo, c_s_OneWayNo, h_DrawOneWayTable, c_DrawNeedTable, h_OneWayTable, c_OneWayTable, h_s_OneWayTable, c_s_OneWayTable, h_DrawOneWayMost, c_DrawMostByNeed, h_OneWayMost, c_OneWayMost, h_s_OneWayMost, h_NeedOf, c_NeedOf, ↓SP, SQ, SU, stepM, callC, argC, nmBy, stepD, stepW, fz, loadA, cellsA, binA, snap, thaw, fzAll, elemOf, partsA, buildA, putCells, ↓reduceIte, reduceCtorEq, okCell, Nat.reduceAdd, Nat.reduceEqDiff, Nat.reduceSub, Nat.reduceMul, Nat.reduceLeDiff, Nat.reduceLT, Nat.reduceBEq]
            cases h3 : told c with
            | true =>
              simp only [h3, hT, hM, htl, hmb, hen, hw, hg1, hng, hnl, hlt, Int.toNat_natCast, Int.natCast_nonneg, h1, hsv, p3, p4, hws, u1, u2, u3, hv, hk, hcc, hss, hm1, hm2, hqq, q0, q1, z0, slI_nil, slI_e, slI_sl, isI_ints, ofI_ints, ints_len, Bool.and_false, Bool.false_and, Bool.true_and, Bool.and_self, Bool.not_true, Bool.not_false, Bool.false_eq_true, bne_self_eq_false, beq_self_eq_true, ↓thaw_ow, ↓thaw_ow2, slI_ite, h_rBig, c_rBig, h_DrawOneWayNeed, c_DrawOneWayNeed, h_OneWayNeed, c_OneWayNeed, h_s_OneWayNeed, h_AreCounts, c_AreCounts, h_OneWaySplit, c_OneWaySplit, h_s_OneWaySplit, c_s_OneWaySplit, h_eqIntS, c_eqIntS, h_SavedOneWay, c_SavedOneWay, h_s_SavedOneWay, h_OneWayPaths, c_OneWayPaths, h_s_OneWayPaths, h_DrawSplitNeed, c_DrawSplitNeed, h_OneWayYes, c_OneWayYes, h_s_OneWayYes, c_s_OneWayYes, h_OneWayNo, c_OneWayNo, h_s_OneWayNo, c_s_OneWayNo, h_DrawOneWayTable, c_DrawNeedTable, h_OneWayTable, c_OneWayTable, h_s_OneWayTable, c_s_OneWayTable, h_DrawOneWayMost, c_DrawMostByNeed, h_OneWayMost, c_OneWayMost, h_s_OneWayMost, h_NeedOf, c_NeedOf, ↓SP, SQ, SU, stepM, callC, argC, nmBy, stepD, stepW, fz, loadA, cellsA, binA, snap, thaw, fzAll, elemOf, partsA, buildA, putCells, ↓reduceIte, reduceCtorEq, okCell, Nat.reduceAdd, Nat.reduceEqDiff, Nat.reduceSub, Nat.reduceMul, Nat.reduceLeDiff, Nat.reduceLT, Nat.reduceBEq]
              exact finA_val (by simp [retA, rvA, mkE_cons, mk_nil, mkO_cons, mkO_nil, loadA, SV.tr, SV.trL, nmF, rn_nil, rn_cons1, rn_cons2, plainOb, SV.refsL, SV.refs, Ob.refs, X, F, List.range_succ, mkO, setO_mk]) (by simp [SV.tr, SV.trL])
            | false =>
              have hD := HD.of h1 h3
              have hdo := spl_okSp h8 hD.mem
              have hdl := spl_len hD.mem
              have hd0 : (hdS c).length ≤ 1100000 := by omega
              have hd1 : (noL c (hdS c)).length ≤ 1100000 := by rw [noL_len]; exact hd0
              have hdn := hd_need h1 h3
              have o1 := hD.ok1
              have o2 := hD.ok2
              have l1 : ¬ ndI false (hdS c) ≥ ndI false c := by have := hD.lt1; omega
              have l2 : ¬ ndI false (noL c (hdS c)) ≥ ndI false c := by have := hD.lt2; omega
              have hwn : IntKind.i64.wrap (ndI false c - 1) = ndI false c - 1 := wrap64 (by omega) (by omega)
              simp only [h3, hdo, hd0, hd1, o1, o2, l1, l2, hwn, hT, hM, htl, hmb, hen, hw, hg1, hng, hnl, hlt, Int.toNat_natCast, Int.natCast_nonneg, h1, hsv, p3, p4, hws, u1, u2, u3, hv, hk, hcc, hss, hm1, hm2, hqq, q0, q1, z0, slI_nil, slI_e, slI_sl, isI_ints, ofI_ints, ints_len, Bool.and_false, Bool.false_and, Bool.true_and, Bool.and_self, Bool.not_true, Bool.not_false, Bool.false_eq_true, bne_self_eq_false, beq_self_eq_true, ↓thaw_ow, ↓thaw_ow2, slI_ite, h_rBig, c_rBig, h_DrawOneWayNeed, c_DrawOneWayNeed, h_OneWayNeed, c_OneWayNeed, h_s_OneWayNeed, h_AreCounts, c_AreCounts, h_OneWaySplit, c_OneWaySplit, h_s_OneWaySplit, c_s_OneWaySplit, h_eqIntS, c_eqIntS, h_SavedOneWay, c_SavedOneWay, h_s_SavedOneWay, h_OneWayPaths, c_OneWayPaths, h_s_OneWayPaths, h_DrawSplitNeed, c_DrawSplitNeed, h_OneWayYes, c_OneWayYes, h_s_OneWayYes, c_s_OneWayYes, h_OneWayNo, c_OneWayNo, h_s_OneWayNo, c_s_OneWayNo, h_DrawOneWayTable, c_DrawNeedTable, h_OneWayTable, c_OneWayTable, h_s_OneWayTable, c_s_OneWayTable, h_DrawOneWayMost, c_DrawMostByNeed, h_OneWayMost, c_OneWayMost, h_s_OneWayMost, h_NeedOf, c_NeedOf, ↓SP, SQ, SU, stepM, callC, argC, nmBy, stepD, stepW, fz, loadA, cellsA, binA, snap, thaw, fzAll, elemOf, partsA, buildA, putCells, ↓reduceIte, reduceCtorEq, okCell, Nat.reduceAdd, Nat.reduceEqDiff, Nat.reduceSub, Nat.reduceMul, Nat.reduceLeDiff, Nat.reduceLT, Nat.reduceBEq]
              by_cases hne : ndI false (hdS c) = ndI false c - 1
              · have e1 : (ndI false (hdS c) != ndI false c - 1) = false := by rw [hne]; exact bne_self_eq_false _
                simp only [e1, h3, hdo, hd0, hd1, o1, o2, l1, l2, hwn, hT, hM, htl, hmb, hen, hw, hg1, hng, hnl, hlt, Int.toNat_natCast, Int.natCast_nonneg, h1, hsv, p3, p4, hws, u1, u2, u3, hv, hk, hcc, hss, hm1, hm2, hqq, q0, q1, z0, slI_nil, slI_e, slI_sl, isI_ints, ofI_ints, ints_len, Bool.and_false, Bool.false_and, Bool.true_and, Bool.and_self, Bool.not_true, Bool.not_false, Bool.false_eq_true, bne_self_eq_false, beq_self_eq_true, ↓thaw_ow, ↓thaw_ow2, slI_ite, h_rBig, c_rBig, h_DrawOneWayNeed, c_DrawOneWayNeed, h_OneWayNeed, c_OneWayNeed, h_s_OneWayNeed, h_AreCounts, c_AreCounts, h_OneWaySplit, c_OneWaySplit, h_s_OneWaySplit, c_s_OneWaySplit, h_eqIntS, c_eqIntS, h_SavedOneWay, c_SavedOneWay, h_s_SavedOneWay, h_OneWayPaths, c_OneWayPaths, h_s_OneWayPaths, h_DrawSplitNeed, c_DrawSplitNeed, h_OneWayYes, c_OneWayYes, h_s_OneWayYes, c_s_OneWayYes, h_OneWayNo, c_OneWayNo, h_s_OneWayNo, c_s_OneWayNo, h_DrawOneWayTable, c_DrawNeedTable, h_OneWayTable, c_OneWayTable, h_s_OneWayTable, c_s_OneWayTable, h_DrawOneWayMost, c_DrawMostByNeed, h_OneWayMost, c_OneWayMost, h_s_OneWayMost, h_NeedOf, c_NeedOf, ↓SP, SQ, SU, stepM, callC, argC, nmBy, stepD, stepW, fz, loadA, cellsA, binA, snap, thaw, fzAll, elemOf, partsA, buildA, putCells, ↓reduceIte, reduceCtorEq, okCell, Nat.reduceAdd, Nat.reduceEqDiff, Nat.reduceSub, Nat.reduceMul, Nat.reduceLeDiff, Nat.reduceLT, Nat.reduceBEq]
                exact finA_val (by simp [retA, rvA, mkE_cons, mk_nil, mkO_cons, mkO_nil, loadA, SV.tr, SV.trL, nmF, rn_nil, rn_cons1, rn_cons2, plainOb, SV.refsL, SV.refs, Ob.refs, X, F, List.range_succ, mkO, setO_mk]) (by simp [SV.tr, SV.trL])
              · have e1 : (ndI false (hdS c) != ndI false c - 1) = true := bne_iff_ne.2 hne
                have e2 : (ndI false (noL c (hdS c)) != ndI false c - 1) = false := by
                  have : ndI false (noL c (hdS c)) = ndI false c - 1 := by
                    have h1 := hdn
                    simp only [mxI] at h1
                    split at h1 <;> omega
                  rw [this]; exact bne_self_eq_false _
                simp only [e1, e2, h3, hdo, hd0, hd1, o1, o2, l1, l2, hwn, hT, hM, htl, hmb, hen, hw, hg1, hng, hnl, hlt, Int.toNat_natCast, Int.natCast_nonneg, h1, hsv, p3, p4, hws, u1, u2, u3, hv, hk, hcc, hss, hm1, hm2, hqq, q0, q1, z0, slI_nil, slI_e, slI_sl, isI_ints, ofI_ints, ints_len, Bool.and_false, Bool.false_and, Bool.true_and, Bool.and_self, Bool.not_true, Bool.not_false, Bool.false_eq_true, bne_self_eq_false, beq_self_eq_true, ↓thaw_ow, ↓thaw_ow2, slI_ite, h_rBig, c_rBig, h_DrawOneWayNeed, c_DrawOneWayNeed, h_OneWayNeed, c_OneWayNeed, h_s_OneWayNeed, h_AreCounts, c_AreCounts, h_OneWaySplit, c_OneWaySplit, h_s_OneWaySplit, c_s_OneWaySplit, h_eqIntS, c_eqIntS, h_SavedOneWay, c_SavedOneWay, h_s_SavedOneWay, h_OneWayPaths, c_OneWayPaths, h_s_OneWayPaths, h_DrawSplitNeed, c_DrawSplitNeed, h_OneWayYes, c_OneWayYes, h_s_OneWayYes, c_s_OneWayYes, h_OneWayNo, c_OneWayNo, h_s_OneWayNo, c_s_OneWayNo, h_DrawOneWayTable, c_DrawNeedTable, h_OneWayTable, c_OneWayTable, h_s_OneWayTable, c_s_OneWayTable, h_DrawOneWayMost, c_DrawMostByNeed, h_OneWayMost, c_OneWayMost, h_s_OneWayMost, h_NeedOf, c_NeedOf, ↓SP, SQ, SU, stepM, callC, argC, nmBy, stepD, stepW, fz, loadA, cellsA, binA, snap, thaw, fzAll, elemOf, partsA, buildA, putCells, ↓reduceIte, reduceCtorEq, okCell, Nat.reduceAdd, Nat.reduceEqDiff, Nat.reduceSub, Nat.reduceMul, Nat.reduceLeDiff, Nat.reduceLT, Nat.reduceBEq]
                exact finA_val (by simp [retA, rvA, mkE_cons, mk_nil, mkO_cons, mkO_nil, loadA, SV.tr, SV.trL, nmF, rn_nil, rn_cons1, rn_cons2, plainOb, SV.refsL, SV.refs, Ob.refs, X, F, List.range_succ, mkO, setO_mk]) (by simp [SV.tr, SV.trL])
        · have hmb : (m1 == m2) = false := by simp [hmm]
          simp only [hT, hM, htl, hmb, h1, hsv, p3, p4, hws, u1, u2, u3, hv, hk, hcc, hss, hm1, hm2, hqq, q0, q1, z0, slI_nil, slI_e, slI_sl, isI_ints, ofI_ints, ints_len, Bool.and_false, Bool.false_and, Bool.true_and, Bool.and_self, Bool.not_true, Bool.not_false, Bool.false_eq_true, bne_self_eq_false, beq_self_eq_true, ↓thaw_ow, ↓thaw_ow2, slI_ite, h_rBig, c_rBig, h_DrawOneWayNeed, c_DrawOneWayNeed, h_OneWayNeed, c_OneWayNeed, h_s_OneWayNeed, h_AreCounts, c_AreCounts, h_OneWaySplit, c_OneWaySplit, h_s_OneWaySplit, c_s_OneWaySplit, h_eqIntS, c_eqIntS, h_SavedOneWay, c_SavedOneWay, h_s_SavedOneWay, h_OneWayPaths, c_OneWayPaths, h_s_OneWayPaths, h_DrawSplitNeed, c_DrawSplitNeed, h_OneWayYes, c_OneWayYes, h_s_OneWayYes, c_s_OneWayYes, h_OneWayNo, c_OneWayNo, h_s_OneWayNo, c_s_OneWayNo, h_DrawOneWayTable, c_DrawNeedTable, h_OneWayTable, c_OneWayTable, h_s_OneWayTable, c_s_OneWayTable, h_DrawOneWayMost, c_DrawMostByNeed, h_OneWayMost, c_OneWayMost, h_s_OneWayMost, h_NeedOf, c_NeedOf, ↓SP, SQ, SU, stepM, callC, argC, nmBy, stepD, stepW, fz, loadA, cellsA, binA, snap, thaw, fzAll, elemOf, partsA, buildA, putCells, ↓reduceIte, reduceCtorEq, okCell, Nat.reduceAdd, Nat.reduceEqDiff, Nat.reduceSub, Nat.reduceMul, Nat.reduceLeDiff, Nat.reduceLT, Nat.reduceBEq]
          cases h3 : told c with
          | true =>
            simp only [h3, hT, hM, htl, hmb, h1, hsv, p3, p4, hws, u1, u2, u3, hv, hk, hcc, hss, hm1, hm2, hqq, q0, q1, z0, slI_nil, slI_e, slI_sl, isI_ints, ofI_ints, ints_len, Bool.and_false, Bool.false_and, Bool.true_and, Bool.and_self, Bool.not_true, Bool.not_false, Bool.false_eq_true, bne_self_eq_false, beq_self_eq_true, ↓thaw_ow, ↓thaw_ow2, slI_ite, h_rBig, c_rBig, h_DrawOneWayNeed, c_DrawOneWayNeed, h_OneWayNeed, c_OneWayNeed, h_s_OneWayNeed, h_AreCounts, c_AreCounts, h_OneWaySplit, c_OneWaySplit, h_s_OneWaySplit, c_s_OneWaySplit, h_eqIntS, c_eqIntS, h_SavedOneWay, c_SavedOneWay, h_s_SavedOneWay, h_OneWayPaths, c_OneWayPaths, h_s_OneWayPaths, h_DrawSplitNeed, c_DrawSplitNeed, h_OneWayYes, c_OneWayYes, h_s_OneWayYes, c_s_OneWayYes, h_OneWayNo, c_OneWayNo, h_s_OneWayNo, c_s_OneWayNo, h_DrawOneWayTable, c_DrawNeedTable, h_OneWayTable, c_OneWayTable, h_s_OneWayTable, c_s_OneWayTable, h_DrawOneWayMost, c_DrawMostByNeed, h_OneWayMost, c_OneWayMost, h_s_OneWayMost, h_NeedOf, c_NeedOf, ↓SP, SQ, SU, stepM, callC, argC, nmBy, stepD, stepW, fz, loadA, cellsA, binA, snap, thaw, fzAll, elemOf, partsA, buildA, putCells, ↓reduceIte, reduceCtorEq, okCell, Nat.reduceAdd, Nat.reduceEqDiff, Nat.reduceSub, Nat.reduceMul, Nat.reduceLeDiff, Nat.reduceLT, Nat.reduceBEq]
            exact finA_val (by simp [retA, rvA, mkE_cons, mk_nil, mkO_cons, mkO_nil, loadA, SV.tr, SV.trL, nmF, rn_nil, rn_cons1, rn_cons2, plainOb, SV.refsL, SV.refs, Ob.refs, X, F, List.range_succ, mkO, setO_mk]) (by simp [SV.tr, SV.trL])
          | false =>
            have hD := HD.of h1 h3
            have hdo := spl_okSp h8 hD.mem
            have hdl := spl_len hD.mem
            have hd0 : (hdS c).length ≤ 1100000 := by omega
            have hd1 : (noL c (hdS c)).length ≤ 1100000 := by rw [noL_len]; exact hd0
            have hdn := hd_need h1 h3
            have o1 := hD.ok1
            have o2 := hD.ok2
            have l1 : ¬ ndI false (hdS c) ≥ ndI false c := by have := hD.lt1; omega
            have l2 : ¬ ndI false (noL c (hdS c)) ≥ ndI false c := by have := hD.lt2; omega
            have hwn : IntKind.i64.wrap (ndI false c - 1) = ndI false c - 1 := wrap64 (by omega) (by omega)
            simp only [h3, hdo, hd0, hd1, o1, o2, l1, l2, hwn, hT, hM, htl, hmb, h1, hsv, p3, p4, hws, u1, u2, u3, hv, hk, hcc, hss, hm1, hm2, hqq, q0, q1, z0, slI_nil, slI_e, slI_sl, isI_ints, ofI_ints, ints_len, Bool.and_false, Bool.false_and, Bool.true_and, Bool.and_self, Bool.not_true, Bool.not_false, Bool.false_eq_true, bne_self_eq_false, beq_self_eq_true, ↓thaw_ow, ↓thaw_ow2, slI_ite, h_rBig, c_rBig, h_DrawOneWayNeed, c_DrawOneWayNeed, h_OneWayNeed, c_OneWayNeed, h_s_OneWayNeed, h_AreCounts, c_AreCounts, h_OneWaySplit, c_OneWaySplit, h_s_OneWaySplit, c_s_OneWaySplit, h_eqIntS, c_eqIntS, h_SavedOneWay, c_SavedOneWay, h_s_SavedOneWay, h_OneWayPaths, c_OneWayPaths, h_s_OneWayPaths, h_DrawSplitNeed, c_DrawSplitNeed, h_OneWayYes, c_OneWayYes, h_s_OneWayYes, c_s_OneWayYes, h_OneWayNo, c_OneWayNo, h_s_OneWayNo, c_s_OneWayNo, h_DrawOneWayTable, c_DrawNeedTable, h_OneWayTable, c_OneWayTable, h_s_OneWayTable, c_s_OneWayTable, h_DrawOneWayMost, c_DrawMostByNeed, h_OneWayMost, c_OneWayMost, h_s_OneWayMost, h_NeedOf, c_NeedOf, ↓SP, SQ, SU, stepM, callC, argC, nmBy, stepD, stepW, fz, loadA, cellsA, binA, snap, thaw, fzAll, elemOf, partsA, buildA, putCells, ↓reduceIte, reduceCtorEq, okCell, Nat.reduceAdd, Nat.reduceEqDiff, Nat.reduceSub, Nat.reduceMul, Nat.reduceLeDiff, Nat.reduceLT, Nat.reduceBEq]
            by_cases hne : ndI false (hdS c) = ndI false c - 1
            · have e1 : (ndI false (hdS c) != ndI false c - 1) = false := by rw [hne]; exact bne_self_eq_false _
              simp only [e1, h3, hdo, hd0, hd1, o1, o2, l1, l2, hwn, hT, hM, htl, hmb, h1, hsv, p3, p4, hws, u1, u2, u3, hv, hk, hcc, hss, hm1, hm2, hqq, q0, q1, z0, slI_nil, slI_e, slI_sl, isI_ints, ofI_ints, ints_len, Bool.and_false, Bool.false_and, Bool.true_and, Bool.and_self, Bool.not_true, Bool.not_false, Bool.false_eq_true, bne_self_eq_false, beq_self_eq_true, ↓thaw_ow, ↓thaw_ow2, slI_ite, h_rBig, c_rBig, h_DrawOneWayNeed, c_DrawOneWayNeed, h_OneWayNeed, c_OneWayNeed, h_s_OneWayNeed, h_AreCounts, c_AreCounts, h_OneWaySplit, c_OneWaySplit, h_s_OneWaySplit, c_s_OneWaySplit, h_eqIntS, c_eqIntS, h_SavedOneWay, c_SavedOneWay, h_s_SavedOneWay, h_OneWayPaths, c_OneWayPaths, h_s_OneWayPaths, h_DrawSplitNeed, c_DrawSplitNeed, h_OneWayYes, c_OneWayYes, h_s_OneWayYes, c_s_OneWayYes, h_OneWayNo, c_OneWayNo, h_s_OneWayNo, c_s_OneWayNo, h_DrawOneWayTable, c_DrawNeedTable, h_OneWayTable, c_OneWayTable, h_s_OneWayTable, c_s_OneWayTable, h_DrawOneWayMost, c_DrawMostByNeed, h_OneWayMost, c_OneWayMost, h_s_OneWayMost, h_NeedOf, c_NeedOf, ↓SP, SQ, SU, stepM, callC, argC, nmBy, stepD, stepW, fz, loadA, cellsA, binA, snap, thaw, fzAll, elemOf, partsA, buildA, putCells, ↓reduceIte, reduceCtorEq, okCell, Nat.reduceAdd, Nat.reduceEqDiff, Nat.reduceSub, Nat.reduceMul, Nat.reduceLeDiff, Nat.reduceLT, Nat.reduceBEq]
              exact finA_val (by simp [retA, rvA, mkE_cons, mk_nil, mkO_cons, mkO_nil, loadA, SV.tr, SV.trL, nmF, rn_nil, rn_cons1, rn_cons2, plainOb, SV.refsL, SV.refs, Ob.refs, X, F, List.range_succ, mkO, setO_mk]) (by simp [SV.tr, SV.trL])
            · have e1 : (ndI false (hdS c) != ndI false c - 1) = true := bne_iff_ne.2 hne
              have e2 : (ndI false (noL c (hdS c)) != ndI false c - 1) = false := by
                have : ndI false (noL c (hdS c)) = ndI false c - 1 := by
                  have h1 := hdn
                  simp only [mxI] at h1
                  split at h1 <;> omega
                rw [this]; exact bne_self_eq_false _
              simp only [e1, e2, h3, hdo, hd0, hd1, o1, o2, l1, l2, hwn, hT, hM, htl, hmb, h1, hsv, p3, p4, hws, u1, u2, u3, hv, hk, hcc, hss, hm1, hm2, hqq, q0, q1, z0, slI_nil, slI_e, slI_sl, isI_ints, ofI_ints, ints_len, Bool.and_false, Bool.false_and, Bool.true_and, Bool.and_self, Bool.not_true, Bool.not_false, Bool.false_eq_true, bne_self_eq_false, beq_self_eq_true, ↓thaw_ow, ↓thaw_ow2, slI_ite, h_rBig, c_rBig, h_DrawOneWayNeed, c_DrawOneWayNeed, h_OneWayNeed, c_OneWayNeed, h_s_OneWayNeed, h_AreCounts, c_AreCounts, h_OneWaySplit, c_OneWaySplit, h_s_OneWaySplit, c_s_OneWaySplit, h_eqIntS, c_eqIntS, h_SavedOneWay, c_SavedOneWay, h_s_SavedOneWay, h_OneWayPaths, c_OneWayPaths, h_s_OneWayPaths, h_DrawSplitNeed, c_DrawSplitNeed, h_OneWayYes, c_OneWayYes, h_s_OneWayYes, c_s_OneWayYes, h_OneWayNo, c_OneWayNo, h_s_OneWayNo, c_s_OneWayNo, h_DrawOneWayTable, c_DrawNeedTable, h_OneWayTable, c_OneWayTable, h_s_OneWayTable, c_s_OneWayTable, h_DrawOneWayMost, c_DrawMostByNeed, h_OneWayMost, c_OneWayMost, h_s_OneWayMost, h_NeedOf, c_NeedOf, ↓SP, SQ, SU, stepM, callC, argC, nmBy, stepD, stepW, fz, loadA, cellsA, binA, snap, thaw, fzAll, elemOf, partsA, buildA, putCells, ↓reduceIte, reduceCtorEq, okCell, Nat.reduceAdd, Nat.reduceEqDiff, Nat.reduceSub, Nat.reduceMul, Nat.reduceLeDiff, Nat.reduceLT, Nat.reduceBEq]
              exact finA_val (by simp [retA, rvA, mkE_cons, mk_nil, mkO_cons, mkO_nil, loadA, SV.tr, SV.trL, nmF, rn_nil, rn_cons1, rn_cons2, plainOb, SV.refsL, SV.refs, Ob.refs, X, F, List.range_succ, mkO, setO_mk]) (by simp [SV.tr, SV.trL])
end Go.Proofs.Ytihpfhdkjlphhaa.Pam
