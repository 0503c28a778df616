/- FOR EVERY INPUT THE LAW 'FnStrings' RETURNS TRUE, AND THE INPUT READS AS IT DID; THE CARD: what the five listed variables of the library read as is tied to the program's text. No condition beyond the row's own. -/
import Derived.Test.YtpobnchalcokoaaDoorChecked
import Derived.Test.YtpobnchalcokoaaDoorRows
import Derived.Test.YtpobnchalcokoaaDoorARN
import Derived.Shelf.Strconv.Itoa3
import Derived.Shelf.Strconv.ErrVarAll
import Derived.Shelf.Strings.Search1
import Derived.Shelf.Strings.Search2
import Derived.Shelf.Strings.Search3
import Derived.WalkKit
import Derived.BigCall
import Derived.Lib.AppendIntMem
import Derived.Laws.Bits64
import Derived.Lib.SlBytesRow
import Derived.StillTailTactics
import Derived.Lib.SmallJoins
import Derived.Test.YtpobnchalcokoaaDoorTie
import Derived.ChangeSame
import Derived.ChangeVars
import Derived.JoinedOf
import Derived.RowKit
import Derived.RowKitTokens
import Derived.LaidLaws
import Derived.Stop.Joined
import Derived.Stop.LaidErr
import Derived.SevenTiedAt
import Derived.Test.YtpobnchalcokoaaDoorCards
import Derived.ProofKit
import Derived.LaidMore
import Derived.OpenShut
set_option linter.unusedVariables false
set_option linter.unusedSimpArgs false
namespace Go.Proofs.YtpobnchalcokoaaDoor
open Go Go.Proofs Go.Shelf Go.Proofs.YtpobnchalcokoaaDoor.Pam Go.ChangeShapes Go.WideShapes Go.ChangeAt Go.RowKit Go.Joins
theorem mixed : Tryd.prog.follows .mixedOrders = true := by kernel_rfl
def laysM171_ren : Go.Shelf.Ren := ⟨fun | 171 => 19 | 243 => 33 | 246 => 39 | 283 => 46 | 284 => 47 | 285 => 48 | 286 => 49 | 129 => 58 | 317 => 57 | 318 => 59 | 319 => 60 | 320 => 61 | 337 => 66 | 338 => 67 | n => n, fun | 3 => 3 | 9 => 9 | 2 => 2 | 4 => 4 | 171 => 66 | 0 => 0 | 53 => 33 | 37 => 22 | 5 => 5 | 173 => 69 | 212 => 78 | 51 => 79 | 20 => 20 | 213 => 80 | 46 => 58 | 232 => 91 | 233 => 92 | n => n, fun | 17 => 3 | 18 => 4 | 19 => 5 | n => n⟩
theorem laysM171 : Go.Proofs.LaysM.n171 Tryd.prog laysM171_ren := {
  mixed := by kernel_rfl
  f129 := Tryd.func58.trans (congrArg some (by kernel_rfl))
  f171 := Tryd.func19.trans (congrArg some (by kernel_rfl))
  f243 := Tryd.func33.trans (congrArg some (by kernel_rfl))
  f246 := Tryd.func39.trans (congrArg some (by kernel_rfl))
  f283 := Tryd.func46.trans (congrArg some (by kernel_rfl))
  f284 := Tryd.func47.trans (congrArg some (by kernel_rfl))
  f285 := Tryd.func48.trans (congrArg some (by kernel_rfl))
  f286 := Tryd.func49.trans (congrArg some (by kernel_rfl))
  f317 := Tryd.func57.trans (congrArg some (by kernel_rfl))
  f318 := Tryd.func59.trans (congrArg some (by kernel_rfl))
  f319 := Tryd.func60.trans (congrArg some (by kernel_rfl))
  f320 := Tryd.func61.trans (congrArg some (by kernel_rfl))
  f337 := Tryd.func66.trans (congrArg some (by kernel_rfl))
  f338 := Tryd.func67.trans (congrArg some (by kernel_rfl))
  t0 := Tryd.underlying0
  a0 := Tryd.isAgg0
  z0 := Tryd.sizeOf0
  v0 := Tryd.zeroValue0
  t2 := Tryd.underlying2
  a2 := Tryd.isAgg2
  z2 := Tryd.sizeOf2
  v2 := Tryd.zeroValue2
  t3 := Tryd.underlying3
  a3 := Tryd.isAgg3
  z3 := Tryd.sizeOf3
  v3 := Tryd.zeroValue3
  t4 := Tryd.underlying4
  a4 := Tryd.isAgg4
  z4 := Tryd.sizeOf4
  v4 := Tryd.zeroValue4
  t5 := Tryd.underlying5
  a5 := Tryd.isAgg5
  z5 := Tryd.sizeOf5
  v5 := Tryd.zeroValue5
  t9 := Tryd.underlying9
  a9 := Tryd.isAgg9
  z9 := Tryd.sizeOf9
  v9 := Tryd.zeroValue9
  t20 := Tryd.underlying20
  a20 := Tryd.isAgg20
  z20 := Tryd.sizeOf20
  v20 := Tryd.zeroValue20
  t37 := Tryd.underlying22
  a37 := Tryd.isAgg22
  z37 := Tryd.sizeOf22
  v37 := Tryd.zeroValue22
  t46 := Tryd.underlying58
  a46 := Tryd.isAgg58
  z46 := Tryd.sizeOf58
  v46 := Tryd.zeroValue58
  t51 := Tryd.underlying79
  a51 := Tryd.isAgg79
  z51 := Tryd.sizeOf79
  v51 := Tryd.zeroValue79
  t53 := Tryd.underlying33
  a53 := Tryd.isAgg33
  z53 := Tryd.sizeOf33
  v53 := Tryd.zeroValue33
  t171 := Tryd.underlying66
  a171 := Tryd.isAgg66
  z171 := Tryd.sizeOf66
  v171 := Tryd.zeroValue66
  t173 := Tryd.underlying69
  a173 := Tryd.isAgg69
  z173 := Tryd.sizeOf69
  v173 := Tryd.zeroValue69
  t212 := Tryd.underlying78
  a212 := Tryd.isAgg78
  z212 := Tryd.sizeOf78
  v212 := Tryd.zeroValue78
  t213 := Tryd.underlying80
  a213 := Tryd.isAgg80
  z213 := Tryd.sizeOf80
  t232 := Tryd.underlying91
  a232 := Tryd.isAgg91
  z232 := Tryd.sizeOf91
  v232 := Tryd.zeroValue91
  t233 := Tryd.underlying92
  a233 := Tryd.isAgg92
  z233 := Tryd.sizeOf92
  v233 := Tryd.zeroValue92
  g17 := by kernel_rfl
  g18 := by kernel_rfl
  g19 := by kernel_rfl
  i0 := by kernel_rfl
  i2 := by kernel_rfl
  i3 := by kernel_rfl
  i4 := by kernel_rfl
  i5 := by kernel_rfl
  i9 := by kernel_rfl
  i20 := by kernel_rfl
  i37 := by kernel_rfl
  i46 := by kernel_rfl
  i51 := by kernel_rfl
  i53 := by kernel_rfl
  i171 := by kernel_rfl
  i173 := by kernel_rfl
  i212 := by kernel_rfl
  i232 := by kernel_rfl
  i233 := by kernel_rfl
  m17 := by kernel_rfl
  m18 := by kernel_rfl
  m19 := by kernel_rfl }
open Go.RowKit Go.Sort Go.Lib in
theorem strconv_Itoa (n : Int) (h0 : -9223372036854775808 ≤ n) (h1 : n ≤ 9223372036854775807) (w : World) (htab : Lib.TabIs Tryd.prog w "internal/strconv.uint64pow10" .u64 Lib.pow10Tab) :
    Calls Tryd.prog 19 #[.int .i64 n] w fun e w' => e = .returned (.string ⟨(Lib.itoa n).toArray⟩) ∧ ∃ k os, w' = grow (w.drewN k) os := Any.strconv_Itoa laysM171 n h0 h1 w htab
def laysC172_ren : Go.Shelf.Ren := ⟨fun | 172 => 24 | 244 => 34 | 245 => 35 | 247 => 40 | 279 => 41 | 280 => 42 | 281 => 43 | 282 => 44 | 287 => 50 | 316 => 51 | 171 => 19 | 205 => 52 | 321 => 62 | 322 => 63 | 243 => 33 | 246 => 39 | 283 => 46 | 284 => 47 | 285 => 48 | 286 => 49 | 129 => 58 | 317 => 57 | 318 => 59 | 319 => 60 | 320 => 61 | 337 => 66 | 338 => 67 | n => n, fun | 9 => 9 | 3 => 3 | 75 => 45 | 76 => 46 | 4 => 4 | 5 => 5 | 167 => 60 | 37 => 22 | 0 => 0 | 85 => 61 | 2 => 2 | 168 => 63 | 53 => 33 | 175 => 71 | 46 => 58 | 210 => 74 | 127 => 84 | 145 => 87 | 143 => 85 | 21 => 21 | 171 => 66 | 173 => 69 | 212 => 78 | 51 => 79 | 20 => 20 | 213 => 80 | 232 => 91 | 233 => 92 | 80 => 48 | n => n, fun | 15 => 0 | 16 => 1 | 17 => 3 | 18 => 4 | 19 => 5 | n => n⟩
theorem laysC172 : Go.Proofs.LaysC.n172 Tryd.prog laysC172_ren := {
  mixed := by kernel_rfl
  f129 := Tryd.func58.trans (congrArg some (by kernel_rfl))
  f171 := Tryd.func19.trans (congrArg some (by kernel_rfl))
  f172 := Tryd.func24.trans (congrArg some (by kernel_rfl))
  f205 := Tryd.func52.trans (congrArg some (by kernel_rfl))
  f243 := Tryd.func33.trans (congrArg some (by kernel_rfl))
  f244 := Tryd.func34.trans (congrArg some (by kernel_rfl))
  f245 := Tryd.func35.trans (congrArg some (by kernel_rfl))
  f246 := Tryd.func39.trans (congrArg some (by kernel_rfl))
  f247 := Tryd.func40.trans (congrArg some (by kernel_rfl))
  f279 := Tryd.func41.trans (congrArg some (by kernel_rfl))
  f280 := Tryd.func42.trans (congrArg some (by kernel_rfl))
  f281 := Tryd.func43.trans (congrArg some (by kernel_rfl))
  f282 := Tryd.func44.trans (congrArg some (by kernel_rfl))
  f283 := Tryd.func46.trans (congrArg some (by kernel_rfl))
  f284 := Tryd.func47.trans (congrArg some (by kernel_rfl))
  f285 := Tryd.func48.trans (congrArg some (by kernel_rfl))
  f286 := Tryd.func49.trans (congrArg some (by kernel_rfl))
  f287 := Tryd.func50.trans (congrArg some (by kernel_rfl))
  f316 := Tryd.func51.trans (congrArg some (by kernel_rfl))
  f317 := Tryd.func57.trans (congrArg some (by kernel_rfl))
  f318 := Tryd.func59.trans (congrArg some (by kernel_rfl))
  f319 := Tryd.func60.trans (congrArg some (by kernel_rfl))
  f320 := Tryd.func61.trans (congrArg some (by kernel_rfl))
  f321 := Tryd.func62.trans (congrArg some (by kernel_rfl))
  f322 := Tryd.func63.trans (congrArg some (by kernel_rfl))
  f337 := Tryd.func66.trans (congrArg some (by kernel_rfl))
  f338 := Tryd.func67.trans (congrArg some (by kernel_rfl))
  t0 := Tryd.underlying0
  a0 := Tryd.isAgg0
  z0 := Tryd.sizeOf0
  v0 := Tryd.zeroValue0
  t2 := Tryd.underlying2
  a2 := Tryd.isAgg2
  z2 := Tryd.sizeOf2
  v2 := Tryd.zeroValue2
  t3 := Tryd.underlying3
  a3 := Tryd.isAgg3
  z3 := Tryd.sizeOf3
  v3 := Tryd.zeroValue3
  t4 := Tryd.underlying4
  a4 := Tryd.isAgg4
  z4 := Tryd.sizeOf4
  v4 := Tryd.zeroValue4
  t5 := Tryd.underlying5
  a5 := Tryd.isAgg5
  z5 := Tryd.sizeOf5
  v5 := Tryd.zeroValue5
  t9 := Tryd.underlying9
  a9 := Tryd.isAgg9
  z9 := Tryd.sizeOf9
  v9 := Tryd.zeroValue9
  t20 := Tryd.underlying20
  a20 := Tryd.isAgg20
  z20 := Tryd.sizeOf20
  v20 := Tryd.zeroValue20
  t21 := Tryd.underlying21
  a21 := Tryd.isAgg21
  z21 := Tryd.sizeOf21
  v21 := Tryd.zeroValue21
  t37 := Tryd.underlying22
  a37 := Tryd.isAgg22
  z37 := Tryd.sizeOf22
  v37 := Tryd.zeroValue22
  t46 := Tryd.underlying58
  a46 := Tryd.isAgg58
  z46 := Tryd.sizeOf58
  v46 := Tryd.zeroValue58
  t51 := Tryd.underlying79
  a51 := Tryd.isAgg79
  z51 := Tryd.sizeOf79
  v51 := Tryd.zeroValue79
  t53 := Tryd.underlying33
  a53 := Tryd.isAgg33
  z53 := Tryd.sizeOf33
  v53 := Tryd.zeroValue33
  t75 := Tryd.underlying45
  a75 := Tryd.isAgg45
  z75 := Tryd.sizeOf45
  v75 := Tryd.zeroValue45
  t76 := Tryd.underlying46
  a76 := Tryd.isAgg46
  z76 := Tryd.sizeOf46
  v76 := Tryd.zeroValue46
  t85 := Tryd.underlying61
  a85 := Tryd.isAgg61
  z85 := Tryd.sizeOf61
  v85 := Tryd.zeroValue61
  t127 := Tryd.underlying84
  a127 := Tryd.isAgg84
  z127 := Tryd.sizeOf84
  v127 := Tryd.zeroValue84
  t143 := Tryd.underlying85
  a143 := Tryd.isAgg85
  z143 := Tryd.sizeOf85
  v143 := Tryd.zeroValue85
  t145 := Tryd.underlying87
  a145 := Tryd.isAgg87
  z145 := Tryd.sizeOf87
  v145 := Tryd.zeroValue87
  t167 := Tryd.underlying60
  a167 := Tryd.isAgg60
  z167 := Tryd.sizeOf60
  v167 := Tryd.zeroValue60
  t168 := Tryd.underlying63
  a168 := Tryd.isAgg63
  z168 := Tryd.sizeOf63
  v168 := Tryd.zeroValue63
  t171 := Tryd.underlying66
  a171 := Tryd.isAgg66
  z171 := Tryd.sizeOf66
  v171 := Tryd.zeroValue66
  t173 := Tryd.underlying69
  a173 := Tryd.isAgg69
  z173 := Tryd.sizeOf69
  v173 := Tryd.zeroValue69
  t175 := Tryd.underlying71
  a175 := Tryd.isAgg71
  z175 := Tryd.sizeOf71
  v175 := Tryd.zeroValue71
  t210 := Tryd.underlying74
  a210 := Tryd.isAgg74
  z210 := Tryd.sizeOf74
  v210 := Tryd.zeroValue74
  t212 := Tryd.underlying78
  a212 := Tryd.isAgg78
  z212 := Tryd.sizeOf78
  v212 := Tryd.zeroValue78
  t213 := Tryd.underlying80
  a213 := Tryd.isAgg80
  z213 := Tryd.sizeOf80
  t232 := Tryd.underlying91
  a232 := Tryd.isAgg91
  z232 := Tryd.sizeOf91
  v232 := Tryd.zeroValue91
  t233 := Tryd.underlying92
  a233 := Tryd.isAgg92
  z233 := Tryd.sizeOf92
  v233 := Tryd.zeroValue92
  g15 := by kernel_rfl
  g16 := by kernel_rfl
  g17 := by kernel_rfl
  g18 := by kernel_rfl
  g19 := by kernel_rfl
  t80 := Tryd.underlying48
  a80 := Tryd.isAgg48
  z80 := Tryd.sizeOf48
  v80 := Tryd.zeroValue48
  i0 := by kernel_rfl
  i2 := by kernel_rfl
  i3 := by kernel_rfl
  i4 := by kernel_rfl
  i5 := by kernel_rfl
  i9 := by kernel_rfl
  i20 := by kernel_rfl
  i21 := by kernel_rfl
  i37 := by kernel_rfl
  i46 := by kernel_rfl
  i51 := by kernel_rfl
  i53 := by kernel_rfl
  i75 := by kernel_rfl
  i76 := by kernel_rfl
  i80 := by kernel_rfl
  i85 := by kernel_rfl
  i127 := by kernel_rfl
  i143 := by kernel_rfl
  i145 := by kernel_rfl
  i167 := by kernel_rfl
  i168 := by kernel_rfl
  i171 := by kernel_rfl
  i173 := by kernel_rfl
  i175 := by kernel_rfl
  i210 := by kernel_rfl
  i212 := by kernel_rfl
  i232 := by kernel_rfl
  i233 := by kernel_rfl
  m15 := by kernel_rfl
  m16 := by kernel_rfl
  m17 := by kernel_rfl
  m18 := by kernel_rfl
  m19 := by kernel_rfl
  c0 := by kernel_rfl
  c2 := by kernel_rfl
  c3 := by kernel_rfl
  c4 := by kernel_rfl
  c5 := by kernel_rfl
  c9 := by kernel_rfl
  c20 := by kernel_rfl
  c21 := by kernel_rfl
  c37 := by kernel_rfl
  c46 := by kernel_rfl
  c51 := by kernel_rfl
  c53 := by kernel_rfl
  c75 := by kernel_rfl
  c76 := by kernel_rfl
  c80 := by kernel_rfl
  c85 := by kernel_rfl
  c127 := by kernel_rfl
  c143 := by kernel_rfl
  c145 := by kernel_rfl
  c167 := by kernel_rfl
  c168 := by kernel_rfl
  c171 := by kernel_rfl
  c173 := by kernel_rfl
  c175 := by kernel_rfl
  c210 := by kernel_rfl
  c212 := by kernel_rfl
  c213 := by kernel_rfl
  c232 := by kernel_rfl
  c233 := by kernel_rfl }
theorem strconv_Atoi_ok (s : ByteArray) (hmax : s.size ≤ 9223372036854775806) (v : Int) (h : Lib.atoiAll s.data.toList = .ok v) (w : World) :
    Calls Tryd.prog 24 #[.string s] w fun e w' => e = .returned (.tuple #[.int .i64 v, .nilIface]) ∧ (w' = w ∨ ∃ t, w' = Lib.bytesWorld w 5 t) := Any.strconv_Atoi_ok laysC172 s hmax v h w
theorem strconv_Atoi_range_var (s : ByteArray) (hlim : s.size ≤ 281474976710656) (h : Lib.atoiAll s.data.toList = .range) (tp : TypeId) (p : Value) (w : World) (hvar : w.var? Tryd.prog "strconv.ErrRange" = some #[.iface tp p]) :
    Calls Tryd.prog 24 #[.string s] w fun e w' => ∃ N, e = .returned (.tuple #[.int .i64 (Lib.atoiSat s.data.toList), .iface 63 (.pointer (some ⟨N, 0, none⟩))]) ∧ w.heap.size ≤ N ∧ w'.heap[N]? = some (.cells #[.string ⟨#[65, 116, 111, 105]⟩, .string s, .iface tp p] 74 (0, 0)) ∧ Below w.heap.size w w' := Any.strconv_Atoi_range_var laysC172 s hlim h tp p w hvar
def lays219_ren : Go.Shelf.Ren := ⟨fun | 219 => 45 | 217 => 53 | 225 => 54 | 224 => 55 | 267 => 56 | 266 => 64 | 314 => 65 | n => n, fun | 9 => 9 | 3 => 3 | 4 => 4 | 5 => 5 | 46 => 58 | 146 => 88 | 51 => 79 | n => n, fun | 1 => 2 | n => n⟩
theorem lays219 : Go.Proofs.Lays.n219 Tryd.prog lays219_ren := {
  mixed := by kernel_rfl
  f217 := Tryd.func53.trans (congrArg some (by kernel_rfl))
  f219 := Tryd.func45.trans (congrArg some (by kernel_rfl))
  f224 := Tryd.func55.trans (congrArg some (by kernel_rfl))
  f225 := Tryd.func54.trans (congrArg some (by kernel_rfl))
  f266 := Tryd.func64.trans (congrArg some (by kernel_rfl))
  f267 := Tryd.func56.trans (congrArg some (by kernel_rfl))
  f314 := Tryd.func65.trans (congrArg some (by kernel_rfl))
  t3 := Tryd.underlying3
  a3 := Tryd.isAgg3
  z3 := Tryd.sizeOf3
  v3 := Tryd.zeroValue3
  t4 := Tryd.underlying4
  a4 := Tryd.isAgg4
  z4 := Tryd.sizeOf4
  v4 := Tryd.zeroValue4
  t5 := Tryd.underlying5
  a5 := Tryd.isAgg5
  z5 := Tryd.sizeOf5
  v5 := Tryd.zeroValue5
  t9 := Tryd.underlying9
  a9 := Tryd.isAgg9
  z9 := Tryd.sizeOf9
  v9 := Tryd.zeroValue9
  t46 := Tryd.underlying58
  a46 := Tryd.isAgg58
  z46 := Tryd.sizeOf58
  v46 := Tryd.zeroValue58
  t51 := Tryd.underlying79
  a51 := Tryd.isAgg79
  z51 := Tryd.sizeOf79
  v51 := Tryd.zeroValue79
  t146 := Tryd.underlying88
  a146 := Tryd.isAgg88
  z146 := Tryd.sizeOf88
  v146 := Tryd.zeroValue88
  g1 := by kernel_rfl }
theorem stringslite_Index_one (s : ByteArray) (c : UInt8) (w : World) :
    Calls Tryd.prog 45 #[.string s, .string ⟨#[c]⟩] w fun e w' => e = .returned (.int .i64 (Lib.indexByte s.data.toList c)) ∧ w' = w := Any.stringslite_Index_one lays219 s c w
def lays144_ren : Go.Shelf.Ren := ⟨fun | 144 => 27 | 143 => 36 | 219 => 45 | 217 => 53 | 225 => 54 | 224 => 55 | 267 => 56 | 266 => 64 | 314 => 65 | n => n, fun | 9 => 9 | 4 => 4 | 3 => 3 | 5 => 5 | 46 => 58 | 146 => 88 | 51 => 79 | n => n, fun | 1 => 2 | n => n⟩
theorem lays144 : Go.Proofs.Lays.n144 Tryd.prog lays144_ren := {
  mixed := by kernel_rfl
  f143 := Tryd.func36.trans (congrArg some (by kernel_rfl))
  f144 := Tryd.func27.trans (congrArg some (by kernel_rfl))
  f217 := Tryd.func53.trans (congrArg some (by kernel_rfl))
  f219 := Tryd.func45.trans (congrArg some (by kernel_rfl))
  f224 := Tryd.func55.trans (congrArg some (by kernel_rfl))
  f225 := Tryd.func54.trans (congrArg some (by kernel_rfl))
  f266 := Tryd.func64.trans (congrArg some (by kernel_rfl))
  f267 := Tryd.func56.trans (congrArg some (by kernel_rfl))
  f314 := Tryd.func65.trans (congrArg some (by kernel_rfl))
  t3 := Tryd.underlying3
  a3 := Tryd.isAgg3
  z3 := Tryd.sizeOf3
  v3 := Tryd.zeroValue3
  t4 := Tryd.underlying4
  a4 := Tryd.isAgg4
  z4 := Tryd.sizeOf4
  v4 := Tryd.zeroValue4
  t5 := Tryd.underlying5
  a5 := Tryd.isAgg5
  z5 := Tryd.sizeOf5
  v5 := Tryd.zeroValue5
  t9 := Tryd.underlying9
  a9 := Tryd.isAgg9
  z9 := Tryd.sizeOf9
  v9 := Tryd.zeroValue9
  t46 := Tryd.underlying58
  a46 := Tryd.isAgg58
  z46 := Tryd.sizeOf58
  v46 := Tryd.zeroValue58
  t51 := Tryd.underlying79
  a51 := Tryd.isAgg79
  z51 := Tryd.sizeOf79
  v51 := Tryd.zeroValue79
  t146 := Tryd.underlying88
  a146 := Tryd.isAgg88
  z146 := Tryd.sizeOf88
  v146 := Tryd.zeroValue88
  g1 := by kernel_rfl }
theorem strings_Contains_one (s : ByteArray) (c : UInt8) (w : World) :
    Calls Tryd.prog 27 #[.string s, .string ⟨#[c]⟩] w fun e w' => e = .returned (.bool (decide (0 ≤ Lib.indexByte s.data.toList c))) ∧ w' = w := Any.strings_Contains_one lays144 s c w
def G0 : Gam := Gam.none
theorem gs0 : GS Tryd.prog G0 := GS.none
theorem is4 : Is Tryd.prog 4 a_vBig := Is.mk' n_vBig Tryd.func4 (by kernel_rfl) (by kernel_rfl)
def G1 : Gam := G0.addX 4 c_vBig
theorem gs1 : GS Tryd.prog G1 := GS.addX gs0 (s_vBig mixed gs0 is4)
theorem is15 : Is Tryd.prog 15 a_vAt := Is.mk' n_vAt Tryd.func15 (by kernel_rfl) (by kernel_rfl)
def G2 : Gam := G1.addX 15 c_vAt
theorem gs2 : GS Tryd.prog G2 := GS.addX gs1 (s_vAt mixed gs1 is15)
theorem is32 : Is Tryd.prog 32 a_next := Is.mk' n_next Tryd.func32 (by kernel_rfl) (by kernel_rfl)
def G3 : Gam := G2.addX 32 c_next
theorem gs3 : GS Tryd.prog G3 := GS.addX gs2 (s_next mixed gs2 is32)
theorem is17 : Is Tryd.prog 17 (a_pick 32) := Is.mk' n_pick Tryd.func17 (by kernel_rfl) (by kernel_rfl)
def G4 : Gam := G3.addX 17 c_pick
theorem gs4 : GS Tryd.prog G4 := GS.addX gs3 (s_pick mixed gs3 is17 rfl)
theorem is16 : Is Tryd.prog 16 (a_among 17) := Is.mk' n_among Tryd.func16 (by kernel_rfl) (by kernel_rfl)
def G5 : Gam := G4.addX 16 c_among
theorem gs5 : GS Tryd.prog G5 := GS.addX gs4 (s_among mixed gs4 is16 rfl)
theorem is5 : Is Tryd.prog 5 (a_DrawFormatInt 17 16) := Is.mk' n_DrawFormatInt Tryd.func5 (by kernel_rfl) (by kernel_rfl)
def G6 : Gam := G5.addX 5 c_DrawFormatInt
theorem gs6 : GS Tryd.prog G6 := GS.addX gs5 (s_DrawFormatInt mixed gs5 is5 rfl rfl)
theorem is20 : Is Tryd.prog 20 a_l1InI := Is.mk' n_l1InI Tryd.func20 (by kernel_rfl) (by kernel_rfl)
def G7 : Gam := G6.addX 20 c_inI
theorem gs7 : GS Tryd.prog G7 := GS.addX gs6 (s_l1InI mixed gs6 is20)
theorem is21 : Is Tryd.prog 21 (a_num 21) := Is.mk' n_num Tryd.func21 (by kernel_rfl) (by kernel_rfl)
def G8 : Gam := G7.addX 21 c_num
theorem gs8 : GS Tryd.prog G8 := GS.addX gs7 (s_num mixed gs7 is21 (by decide))
theorem is7 : Is Tryd.prog 7 (a_specFormat 20 21) := Is.mk' n_specFormat Tryd.func7 (by kernel_rfl) (by kernel_rfl)
def G9 : Gam := G8.addX 7 c_specFormat
theorem gs9 : GS Tryd.prog G9 := GS.addX gs8 (s_specFormat mixed gs8 is7 rfl rfl)
theorem is22 : Is Tryd.prog 22 (a_one 17) := Is.mk' n_one Tryd.func22 (by kernel_rfl) (by kernel_rfl)
def G10 : Gam := G9.addX 22 c_one
theorem gs10 : GS Tryd.prog G10 := GS.addX gs9 (s_one mixed gs9 is22 rfl)
theorem is23 : Is Tryd.prog 23 (a_ofT 17) := Is.mk' n_ofT Tryd.func23 (by kernel_rfl) (by kernel_rfl)
def G11 : Gam := G10.addX 23 c_ofT
theorem gs11 : GS Tryd.prog G11 := GS.addX gs10 (s_ofT mixed gs10 is23 rfl)
theorem is8 : Is Tryd.prog 8 (a_DrawParseInt 22 23 17 21) := Is.mk' n_DrawParseInt Tryd.func8 (by kernel_rfl) (by kernel_rfl)
def G12 : Gam := G11.addX 8 c_DrawParseInt
theorem gs12 : GS Tryd.prog G12 := GS.addX gs11 (s_DrawParseInt mixed gs11 is8 rfl rfl rfl rfl)
theorem is25 : Is Tryd.prog 25 (a_read 20 21) := Is.mk' n_read Tryd.func25 (by kernel_rfl) (by kernel_rfl)
def G13 : Gam := G12.addX 25 c_read
theorem gs13 : GS Tryd.prog G13 := GS.addX gs12 (s_read mixed gs12 is25 rfl rfl)
theorem is10 : Is Tryd.prog 10 (a_specParse 25) := Is.mk' n_specParse Tryd.func10 (by kernel_rfl) (by kernel_rfl)
def G14 : Gam := G13.addX 10 c_read
theorem gs14 : GS Tryd.prog G14 := GS.addX gs13 (s_specParse mixed gs13 is10 rfl)
theorem is26 : Is Tryd.prog 26 (a_any1 23) := Is.mk' n_any1 Tryd.func26 (by kernel_rfl) (by kernel_rfl)
def G15 : Gam := G14.addX 26 c_any1
theorem gs15 : GS Tryd.prog G15 := GS.addX gs14 (s_any1 mixed gs14 is26 rfl)
theorem is11 : Is Tryd.prog 11 (a_DrawAppend 22 17 26) := Is.mk' n_DrawAppend Tryd.func11 (by kernel_rfl) (by kernel_rfl)
def G16 : Gam := G15.addX 11 c_DrawAppend
theorem gs16 : GS Tryd.prog G16 := GS.addX gs15 (s_DrawAppend mixed gs15 is11 rfl rfl rfl)
theorem is29 : Is Tryd.prog 29 a_stands := Is.mk' n_stands Tryd.func29 (by kernel_rfl) (by kernel_rfl)
def G17 : Gam := G16.addX 29 c_stands
theorem gs17 : GS Tryd.prog G17 := GS.addX gs16 (s_stands mixed gs16 is29)
theorem is37 : Is Tryd.prog 37 a_l1Sum := Is.mk' n_l1Sum Tryd.func37 (by kernel_rfl) (by kernel_rfl)
def G18 : Gam := G17.addX 37 c_checksum
theorem gs18 : GS Tryd.prog G18 := GS.addX gs17 (s_l1Sum mixed gs17 is37)
theorem is30 : Is Tryd.prog 30 (a_seal 37 21) := Is.mk' n_seal Tryd.func30 (by kernel_rfl) (by kernel_rfl)
def G19 : Gam := G18.addX 30 c_seal
theorem gs19 : GS Tryd.prog G19 := GS.addX gs18 (s_seal mixed gs18 is30 rfl rfl)
theorem is13 : Is Tryd.prog 13 (a_specAppend 29 30) := Is.mk' n_specAppend Tryd.func13 (by kernel_rfl) (by kernel_rfl)
def G20 : Gam := G19.addX 13 c_specAppend
theorem gs20 : GS Tryd.prog G20 := GS.addX gs19 (s_specAppend mixed gs19 is13 rfl rfl)
theorem is18 : Is Tryd.prog 18 a_inI := Is.mk' n_inI Tryd.func18 (by kernel_rfl) (by kernel_rfl)
def G21 : Gam := G20.addX 18 c_inI
theorem gs21 : GS Tryd.prog G21 := GS.addX gs20 (s_inI mixed gs20 is18)
theorem is28 : Is Tryd.prog 28 a_checksum := Is.mk' n_checksum Tryd.func28 (by kernel_rfl) (by kernel_rfl)
def G22 : Gam := G21.addX 28 c_checksum
theorem gs22 : GS Tryd.prog G22 := GS.addX gs21 (s_checksum mixed gs21 is28)
def G23 : Gam := G22.addX 45 c_Index1
theorem gs23 : GS Tryd.prog G23 := GS.addX gs22 (says_Index1 ⟨Tryd.f45, Tryd.func45, by kernel_rfl, by kernel_rfl⟩ stringslite_Index_one)
theorem is38 : Is Tryd.prog 38 (a_liteCut 45) := Is.mk' n_liteCut Tryd.func38 (by kernel_rfl) (by kernel_rfl)
def G24 : Gam := G23.addX 38 c_liteCut
theorem gs24 : GS Tryd.prog G24 := GS.addX gs23 (s_liteCut mixed gs23 is38 rfl)
theorem is31 : Is Tryd.prog 31 (a_strCut 38) := Is.mk' n_strCut Tryd.func31 (by kernel_rfl) (by kernel_rfl)
def G25 : Gam := G24.addX 31 c_liteCut
theorem gs25 : GS Tryd.prog G25 := GS.addX gs24 (s_strCut mixed gs24 is31 rfl)
theorem says4 : Says Tryd.prog 4 c_vBig := told_of gs1 (by simp [G1, Gam.addX])
theorem says15 : Says Tryd.prog 15 c_vAt := told_of gs2 (by simp [G2, Gam.addX])
theorem says5 : Says Tryd.prog 5 c_DrawFormatInt := told_of gs6 (by simp [G6, Gam.addX])
theorem says7 : Says Tryd.prog 7 c_specFormat := told_of gs9 (by simp [G9, Gam.addX])
theorem says8 : Says Tryd.prog 8 c_DrawParseInt := told_of gs12 (by simp [G12, Gam.addX])
theorem says10 : Says Tryd.prog 10 c_read := told_of gs14 (by simp [G14, Gam.addX])
theorem says11 : Says Tryd.prog 11 c_DrawAppend := told_of gs16 (by simp [G16, Gam.addX])
theorem says13 : Says Tryd.prog 13 c_specAppend := told_of gs20 (by simp [G20, Gam.addX])
theorem says18 : Says Tryd.prog 18 c_inI := told_of gs21 (by simp [G21, Gam.addX])
theorem says28 : Says Tryd.prog 28 c_checksum := told_of gs22 (by simp [G22, Gam.addX])
theorem says31 : Says Tryd.prog 31 c_liteCut := told_of gs25 (by simp [G25, Gam.addX])
end Go.Proofs.YtpobnchalcokoaaDoor
namespace Go.Proofs.YtpobnchalcokoaaDoor
open Go Go.Proofs Go.Shelf Go.Proofs.YtpobnchalcokoaaDoor.Pam Go.RowKit
theorem itoa_calls (n : Int) (h0 : -9223372036854775808 ≤ n) (h1 : n ≤ 9223372036854775807) (w : World) (hL : LaidW Tryd.prog w) : Calls Tryd.prog 19 #[.int .i64 n] w fun e w' => e = .returned (.string (numS n)) ∧ Below w.heap.size w w' := by
  refine (strconv_Itoa n h0 h1 w hL.tab).mono fun e w' ⟨he, k, os, hw⟩ => ⟨he, ?_⟩
  subst hw
  exact Go.Lib.below_grow _ _ (Nat.le_refl _) _ _
set_option maxRecDepth 100000 in
theorem formatInt (n : Int) (h0 : -9223372036854775808 ≤ n) (h1 : n ≤ 9223372036854775807) (w : World) (hL : LaidW Tryd.prog w) :
    Calls Tryd.prog 6 #[.int .i64 n] w fun e w' => e = .returned (.tuple #[.string (fiV n).1, .bool (fiV n).2]) ∧ Below w.heap.size w w' := by
  by_cases hc : -999999 ≤ n ∧ n ≤ 999999
  · have e : fiV n = (numS n, true) := by unfold fiV; rw [if_pos hc]
    rw [e]
    go_enter Tryd.func6, Tryd.ntmps6
    go_wp2_with (go_at_call 18; refine (calls_of says18 (Args.three (.int _ _) (.int _ _) (.int _ _)) (by simp [c_inI, pure', hc]; rfl) (.one (.bool _))).mono ?_)
    rintro _ w1 ⟨rfl, b1⟩
    go_wp2_with (go_at_call 19; refine (itoa_calls n h0 h1 w1 (hL.below b1)).mono ?_)
    rintro _ w2 ⟨rfl, b2⟩
    go_wp2
    go_ret2
    exact ⟨rfl, b1.trans (b2.mono b1.size)⟩
  · have e : fiV n = (⟨#[]⟩, false) := by unfold fiV; rw [if_neg hc]
    rw [e]
    go_enter Tryd.func6, Tryd.ntmps6
    go_wp2_with (go_at_call 18; refine (calls_of says18 (Args.three (.int _ _) (.int _ _) (.int _ _)) (by simp [c_inI, pure', hc]; rfl) (.one (.bool _))).mono ?_)
    rintro _ w1 ⟨rfl, b1⟩
    go_wp2
    go_ret2
    exact ⟨rfl, b1⟩
theorem atoi_ok (s : ByteArray) (hs : s.size ≤ 5000) (v : Int) (h : Lib.atoiAll s.data.toList = .ok v) (w : World) : Calls Tryd.prog 24 #[.string s] w fun e w' => e = .returned (.tuple #[.int .i64 v, .nilIface]) ∧ Below w.heap.size w w' := by
  refine (strconv_Atoi_ok s (by omega) v h w).mono fun e w' ⟨he, hw⟩ => ⟨he, ?_⟩
  rcases hw with rfl | ⟨t, rfl⟩
  · exact Below.refl _ _
  · exact Lib.bytesWorld_below _ _ _
theorem atoi_bad (s : ByteArray) (hs : s.size ≤ 5000) (h : ∀ v, Lib.atoiAll s.data.toList ≠ .ok v) (w : World) (hL : LaidW Tryd.prog w) : Calls Tryd.prog 24 #[.string s] w fun e w' => ∃ (x : Int) (a : Value), (x = 0 ∨ x = -9223372036854775808 ∨ x = 9223372036854775807) ∧ e = .returned (.tuple #[.int .i64 x, .iface 63 a]) ∧ Below w.heap.size w w' := by
  cases hr : Lib.atoiAll s.data.toList with
  | ok v => exact absurd hr (h v)
  | range =>
    obtain ⟨tp, p, e⟩ := hL.rng
    refine (strconv_Atoi_range_var s (by omega) hr tp p w e).mono fun e w' ⟨N, he, _, _, hb⟩ => ⟨_, _, ?_, he, hb⟩
    unfold Lib.atoiSat
    split
    · exact .inr (.inl rfl)
    · exact .inr (.inr rfl)
  | _ =>
    obtain ⟨tp, p, e⟩ := hL.syn
    exact (Any.strconv_Atoi_syntax_var laysC172 s (by omega) hr tp p w e).mono fun e w' ⟨N, he, _, _, hb⟩ => ⟨_, _, .inl rfl, he, hb⟩
set_option maxRecDepth 100000 in
theorem parseInt (s : ByteArray) (hs : s.size ≤ 5000) (w : World) (hL : LaidW Tryd.prog w) :
    Calls Tryd.prog 9 #[.string s] w fun e w' => e = .returned (.tuple #[.int .i64 (piV s).1, .bool (piV s).2]) ∧ Below w.heap.size w w' := by
  by_cases hr : ∃ v, Lib.atoiAll s.data.toList = .ok v
  · obtain ⟨v, hr⟩ := hr
    have hvb := Lib.atoiAll_bounds hr
    have hp : piV s = if (fiV v).2 = true ∧ ((fiV v).1.toList == s.toList) = true then (v, true) else (0, false) := by unfold piV; rw [hr]
    cases h2 : (fiV v).2 with
    | false =>
      rw [h2, if_neg (by simp)] at hp
      rw [hp]
      go_enter Tryd.func9, Tryd.ntmps9
      go_wp2_with (go_at_call 24; refine (atoi_ok s hs v hr w).mono ?_)
      rintro _ w1 ⟨rfl, b1⟩
      go_wp2_with (go_at_call 6; refine (formatInt v (by omega) (by omega) w1 (hL.below b1)).mono ?_)
      rintro _ w2 ⟨rfl, b2⟩
      rw [h2]
      go_wp2
      go_ret2
      exact ⟨rfl, b1.trans (b2.mono b1.size)⟩
    | true =>
      cases hb : ((fiV v).1.toList == s.toList) with
      | true =>
        rw [h2, hb, if_pos ⟨rfl, rfl⟩] at hp
        rw [hp]
        go_enter Tryd.func9, Tryd.ntmps9
        go_wp2_with (go_at_call 24; refine (atoi_ok s hs v hr w).mono ?_)
        rintro _ w1 ⟨rfl, b1⟩
        go_wp2_with (go_at_call 6; refine (formatInt v (by omega) (by omega) w1 (hL.below b1)).mono ?_)
        rintro _ w2 ⟨rfl, b2⟩
        rw [h2]
        go_wp2
        all_goals first | (rename_i hq; rw [hb] at hq; cases hq; done) | (go_ret2; exact ⟨rfl, b1.trans (b2.mono b1.size)⟩)
      | false =>
        rw [h2, hb, if_neg (by simp)] at hp
        rw [hp]
        go_enter Tryd.func9, Tryd.ntmps9
        go_wp2_with (go_at_call 24; refine (atoi_ok s hs v hr w).mono ?_)
        rintro _ w1 ⟨rfl, b1⟩
        go_wp2_with (go_at_call 6; refine (formatInt v (by omega) (by omega) w1 (hL.below b1)).mono ?_)
        rintro _ w2 ⟨rfl, b2⟩
        rw [h2]
        go_wp2
        all_goals first | (rename_i hq; rw [hb] at hq; cases hq; done) | (go_ret2; exact ⟨rfl, b1.trans (b2.mono b1.size)⟩)
  · have hp : piV s = (0, false) := by
      unfold piV
      split
      · rename_i v hv; exact absurd ⟨v, hv⟩ hr
      · rfl
    rw [hp]
    go_enter Tryd.func9, Tryd.ntmps9
    go_wp2_with (go_at_call 24; refine (atoi_bad s hs (fun v hv => hr ⟨v, hv⟩) w hL).mono ?_)
    rintro _ w1 ⟨x, a, hx, rfl, b1⟩
    go_wp2_with (go_at_call 6; refine (formatInt x (by omega) (by omega) w1 (hL.below b1)).mono ?_)
    rintro _ w2 ⟨rfl, b2⟩
    go_wp2
    go_ret2
    exact ⟨rfl, b1.trans (b2.mono b1.size)⟩
theorem checksum_calls (s : ByteArray) (hs : s.size ≤ 5000) (w : World) : Calls Tryd.prog 28 #[.string s] w fun e w' => e = .returned (.int .i64 (sumB s)) ∧ Below w.heap.size w w' :=
  calls_of says28 (Args.one (.str _)) (by simp [c_checksum, pure', hs]) (.one (.int _ _))
theorem cut_calls (s : ByteArray) (hs : s.size ≤ 5000) (w : World) : Calls Tryd.prog 31 #[.string s, .string ⟨#[35]⟩] w fun e w' => e = .returned (.tuple #[.string (cutB s 35), .string (cutR s 35), .bool (hasB s 35)]) ∧ Below w.heap.size w w' :=
  calls_of says31 (Args.two (.str _) (.str _)) (by simp [c_liteCut, pure', hs, show (⟨#[35]⟩ : ByteArray).size = 1 from rfl, show bAt (⟨#[35]⟩ : ByteArray) 0 = 35 from rfl]) (.three (.str _) (.str _) (.bool _))
set_option maxRecDepth 100000 in
theorem appendChecksum (s : ByteArray) (hs : s.size ≤ 4000) (w : World) (hL : LaidW Tryd.prog w) :
    Calls Tryd.prog 12 #[.string s] w fun e w' => e = .returned (.tuple #[.string (apV s).1, .bool (apV s).2]) ∧ Below w.heap.size w w' := by
  have hib : decide (0 ≤ Lib.indexByte s.data.toList 35) = hasB s 35 := ib_has _ _
  have hsm := sumB_lt s
  have hz := sealB_size s
  cases h2 : hasB s 35 with
  | true =>
    have e : apV s = (⟨#[]⟩, false) := by unfold apV; rw [if_pos (.inr (.inl h2))]
    rw [e]
    go_enter Tryd.func12, Tryd.ntmps12
    go_wp2_with (go_at_call 27; refine (strings_Contains_one s 35 w).mono ?_)
    rintro _ w1 ⟨rfl, rfl⟩
    rw [hib, h2]
    go_wp2
    go_ret2
    exact ⟨rfl, Below.refl _ _⟩
  | false =>
    go_enter Tryd.func12, Tryd.ntmps12
    go_wp2_with (go_at_call 27; refine (strings_Contains_one s 35 w).mono ?_)
    rintro _ w1 ⟨rfl, rfl⟩
    rw [hib, h2]
    go_wp2_with (go_at_call 28; refine (checksum_calls s (by omega) w1).mono ?_)
    rintro _ w2 ⟨rfl, b2⟩
    go_wp2_with (go_at_call 19; refine (itoa_calls (sumB s) (by omega) (by omega) w2 (hL.below b2)).mono ?_)
    rintro _ w3 ⟨rfl, b3⟩
    have hse : s ++ ⟨#[35]⟩ ++ numS (sumB s : Int) = sealB s := rfl
    have hns := numS_size (n := (sumB s : Int)) (by omega) (by omega)
    go_wp2
    · rename_i hq
      have e : apV s = (⟨#[]⟩, false) := by unfold apV; rw [if_pos (.inr (.inr (by omega)))]
      rw [e]
      go_ret2
      exact ⟨rfl, b2.trans (b3.mono b2.size)⟩
    · rename_i hq
      have e : apV s = (sealB s, true) := by unfold apV; rw [if_neg (by rw [h2]; simp; omega)]
      rw [e]
      go_ret2
      exact ⟨rfl, b2.trans (b3.mono b2.size)⟩
theorem cutB_size (s : ByteArray) (b : UInt8) : (cutB s b).size ≤ s.size := by
  unfold cutB
  split
  · rw [ByteArray.size_extract]; omega
  · exact Nat.le_refl _
set_option maxRecDepth 100000 in
theorem verifyChecksum (s : ByteArray) (hs : s.size ≤ 4000) (w : World) (hL : LaidW Tryd.prog w) :
    Calls Tryd.prog 14 #[.string s] w fun e w' => e = .returned (.tuple #[.string (vfV s).1, .bool (vfV s).2]) ∧ Below w.heap.size w w' := by
  have hcs := cutB_size s 35
  have hv : vfV s = if (apV (cutB s 35)).2 = true ∧ ((apV (cutB s 35)).1.toList == s.toList) = true then (cutB s 35, true) else (⟨#[]⟩, false) := rfl
  cases h2 : (apV (cutB s 35)).2 with
  | false =>
    rw [h2, if_neg (by simp)] at hv
    rw [hv]
    go_enter Tryd.func14, Tryd.ntmps14
    go_wp2_with (go_at_call 31; refine (cut_calls s (by omega) w).mono ?_)
    rintro _ w1 ⟨rfl, b1⟩
    go_wp2_with (go_at_call 12; refine (appendChecksum (cutB s 35) (by omega) w1 (hL.below b1)).mono ?_)
    rintro _ w2 ⟨rfl, b2⟩
    rw [h2]
    go_wp2
    go_ret2
    exact ⟨rfl, b1.trans (b2.mono b1.size)⟩
  | true =>
    cases hb : ((apV (cutB s 35)).1.toList == s.toList) with
    | true =>
      rw [h2, hb, if_pos ⟨rfl, rfl⟩] at hv
      rw [hv]
      go_enter Tryd.func14, Tryd.ntmps14
      go_wp2_with (go_at_call 31; refine (cut_calls s (by omega) w).mono ?_)
      rintro _ w1 ⟨rfl, b1⟩
      go_wp2_with (go_at_call 12; refine (appendChecksum (cutB s 35) (by omega) w1 (hL.below b1)).mono ?_)
      rintro _ w2 ⟨rfl, b2⟩
      rw [h2]
      go_wp2
      all_goals first | (rename_i hq; rw [hb] at hq; cases hq; done) | (go_ret2; exact ⟨rfl, b1.trans (b2.mono b1.size)⟩)
    | false =>
      rw [h2, hb, if_neg (by simp)] at hv
      rw [hv]
      go_enter Tryd.func14, Tryd.ntmps14
      go_wp2_with (go_at_call 31; refine (cut_calls s (by omega) w).mono ?_)
      rintro _ w1 ⟨rfl, b1⟩
      go_wp2_with (go_at_call 12; refine (appendChecksum (cutB s 35) (by omega) w1 (hL.below b1)).mono ?_)
      rintro _ w2 ⟨rfl, b2⟩
      rw [h2]
      go_wp2
      all_goals first | (rename_i hq; rw [hb] at hq; cases hq; done) | (go_ret2; exact ⟨rfl, b1.trans (b2.mono b1.size)⟩)
end Go.Proofs.YtpobnchalcokoaaDoor
namespace Go.Proofs.YtpobnchalcokoaaDoor
open Go Go.Proofs Go.Shelf Go.Proofs.YtpobnchalcokoaaDoor.Pam Go.RowKit
/-! the calls on the input -/
variable {w : World} {pv : PV} {v : Value} {l : List Int}
theorem big_calls (hv : slU pv = some l) (h : PR w (All w) pv v) : Calls Tryd.prog 4 #[v] w fun e w' => e = .returned (.bool (decide (l.length > 65536))) ∧ Below w.heap.size w w' :=
  calls_of says4 (Args.one h) (by simp [c_vBig, pure', hv]) (.one (.bool _))
theorem at_calls (hv : slU pv = some l) (hl : l.length ≤ 65536) (i : Int) (h0 : 0 ≤ i) (h1 : i ≤ 1000) (h : PR w (All w) pv v) : Calls Tryd.prog 15 #[v, .int .i64 i] w fun e w' => e = .returned (.int .i64 (vaV l i)) ∧ Below w.heap.size w w' :=
  calls_of says15 (Args.two h (.int _ _)) (by simp [c_vAt, pure', hv, hl, h0, h1]) (.one (.int _ _))
theorem df_calls (hv : slU pv = some l) (h : PR w (All w) pv v) : Calls Tryd.prog 5 #[v] w fun e w' => e = .returned (.int .i64 (dfV l)) ∧ Below w.heap.size w w' :=
  calls_of says5 (Args.one h) (by simp [c_DrawFormatInt, pure', hv]) (.one (.int _ _))
theorem dp_calls (hv : slU pv = some l) (h : PR w (All w) pv v) : Calls Tryd.prog 8 #[v] w fun e w' => e = .returned (.string (dpV l)) ∧ Below w.heap.size w w' :=
  calls_of says8 (Args.one h) (by simp [c_DrawParseInt, pure', hv]) (.one (.str _))
theorem da_calls (hv : slU pv = some l) (h : PR w (All w) pv v) : Calls Tryd.prog 11 #[v] w fun e w' => e = .returned (.string (daV l)) ∧ Below w.heap.size w w' :=
  calls_of says11 (Args.one h) (by simp [c_DrawAppend, pure', hv]) (.one (.str _))
theorem sf_calls (n : Int) (w : World) : Calls Tryd.prog 7 #[.int .i64 n] w fun e w' => e = .returned (.tuple #[.string (fiV n).1, .bool (fiV n).2]) ∧ Below w.heap.size w w' :=
  calls_of says7 (Args.one (.int _ _)) (by simp [c_specFormat, pure']) (.two (.str _) (.bool _))
theorem sp_calls (s : ByteArray) (hs : s.size ≤ 5000) (w : World) : Calls Tryd.prog 10 #[.string s] w fun e w' => e = .returned (.tuple #[.int .i64 (rdV s).1, .bool (rdV s).2]) ∧ Below w.heap.size w w' :=
  calls_of says10 (Args.one (.str _)) (by simp [c_read, pure', hs]) (.two (.int _ _) (.bool _))
theorem sa_calls (s : ByteArray) (hs : s.size ≤ 4000) (w : World) : Calls Tryd.prog 13 #[.string s] w fun e w' => e = .returned (.tuple #[.string (apV s).1, .bool (apV s).2]) ∧ Below w.heap.size w w' :=
  calls_of says13 (Args.one (.str _)) (by simp [c_specAppend, pure', hs]) (.two (.str _) (.bool _))
theorem dpV_size (hl : ∀ x ∈ l, 0 ≤ x ∧ x ≤ 255) : (dpV l).size ≤ 5000 := by
  have q := (cu0 0 (Int.le_refl _)).pk l 2
  unfold dpV
  split
  · exact (by decide : ∀ s ∈ dpL, s.size ≤ 5000) _ (amS_mem hl q.1 (by decide))
  · have := dpN_b hl
    have := numS_size (n := dpN l) (by omega) (by omega)
    omega
theorem fiV_size (n : Int) : (fiV n).1.size ≤ 5000 := by
  unfold fiV
  split
  · have := numS_size (n := n) (by omega) (by omega)
    simp only
    omega
  · exact Nat.zero_le _
end Go.Proofs.YtpobnchalcokoaaDoor
namespace Go.Proofs.YtpobnchalcokoaaDoor
open Go Go.Proofs Go.Shelf Go.Proofs.YtpobnchalcokoaaDoor.Pam Go.RowKit
theorem vaV_b {l : List Int} (hl : ∀ x ∈ l, 0 ≤ x ∧ x ≤ 255) (i : Int) (h0 : 0 ≤ i) : 0 ≤ vaV l i ∧ vaV l i ≤ 255 := by
  unfold vaV
  split
  · rename_i h
    rw [show l.getD i.toNat 0 = l[i.toNat]'(by omega) by simp [show i.toNat < l.length by omega]]
    exact hl _ (List.getElem_mem _)
  · omega
theorem u8s_flat (l : List Int) : flat (u8s l) = u8s l := by
  induction l with
  | nil => rfl
  | cons a l ih => simpa [flat, u8s, PV.cells] using ih
set_option maxRecDepth 100000 in
theorem at_same {w : World} {pv : PV} {v : Value} {l : List Int} (hv : slU pv = some l) (hlen : l.length ≤ 65536) (h : PR w (All w) pv v) :
    Calls Tryd.prog 15 #[v, .int .i64 10] w fun e w' => e = .returned (.int .i64 (vaV l 10)) ∧ w' = w := by
  obtain ⟨hp, hr⟩ := slU_out hv
  rcases hp with rfl | ⟨rfl, rfl⟩
  · obtain ⟨b, off, cap, vs, rfl, hcap, _, _, hcell, hel⟩ := h.sl_inv'
    rw [u8s_len] at *
    by_cases hlt : (10 : Int) < l.length
    · have hfl := u8s_flat l
      rw [hfl] at hcell hel
      rw [u8s_len] at hcell
      have hc10 : w.cell? ⟨b, off + 10, none⟩ = some (.int .u8 (l.getD 10 0)) := by
        have h1 := hcell 10 (by omega)
        have h2 := hel 10 (by rw [u8s_len]; omega)
        have h3 : (u8s l)[10]'(by rw [u8s_len]; omega) = .int .u8 (l.getD 10 0) := by
          have := u8s_get (l := l) (i := 10) (by omega)
          rw [List.getElem?_eq_getElem (by rw [u8s_len]; omega)] at this
          injection this
        rw [h3] at h2
        rw [h1]
        generalize vs 10 = y at h2
        cases h2
        rfl
      have e : vaV l 10 = l.getD 10 0 := by unfold vaV; rw [if_pos hlt]; rfl
      have hb := vaV_b hr 10 (by decide)
      rw [e] at hb ⊢
      generalize l.getD 10 0 = q at hc10 hb ⊢
      have hw : RowKit.wrap64 q = q := by unfold RowKit.wrap64; omega
      go_enter Tryd.func15, Tryd.ntmps15
      go_wp2
      go_ret
      exact ⟨rfl, rfl⟩
    · have e : vaV l 10 = (10 * 7 + l.length) % 256 := by unfold vaV; rw [if_neg hlt]
      rw [e]
      have hge : (l.length : Int) ≤ 10 := by omega
      go_enter Tryd.func15, Tryd.ntmps15
      go_wp2
      go_ret
      exact ⟨rfl, rfl⟩
  · cases h
    go_enter Tryd.func15, Tryd.ntmps15
    go_wp2
    go_ret
    exact ⟨rfl, rfl⟩
end Go.Proofs.YtpobnchalcokoaaDoor
namespace Go.Proofs.YtpobnchalcokoaaDoor
open Go Go.Proofs Go.Shelf Go.Proofs.YtpobnchalcokoaaDoor.Pam Go.RowKit
theorem xor_u8 (a b : Nat) (ha : a < 256) (hb : b < 256) : bits .xor .u8 (a : Int) (b : Int) = ((a ^^^ b : Nat) : Int) := by
  have hx : a ^^^ b < 2 ^ 8 := Nat.xor_lt_two_pow (by omega) (by omega)
  have h1 : (BitVec.ofInt 8 (a : Int)).toNat = a := by
    rw [BitVec.ofInt_natCast, BitVec.toNat_ofNat]; exact Nat.mod_eq_of_lt (by omega)
  have h2 : (BitVec.ofInt 8 (b : Int)).toNat = b := by
    rw [BitVec.ofInt_natCast, BitVec.toNat_ofNat]; exact Nat.mod_eq_of_lt (by omega)
  show IntKind.u8.wrap ((BitVec.ofInt 8 (a : Int) ^^^ BitVec.ofInt 8 (b : Int)).toNat : Int) = _
  rw [BitVec.toNat_xor, h1, h2, IntKind.wrap_u8]
  omega
theorem xor_new {a b : Nat} (h : a ^^^ b = a) : b = 0 := by
  have h2 : a ^^^ (a ^^^ b) = b := by rw [← Nat.xor_assoc, Nat.xor_self, Nat.zero_xor]
  rw [h, Nat.xor_self] at h2
  exact h2.symm
/-- The text behind the store. -/
def chB (s : ByteArray) (k : Nat) (c : UInt8) : ByteArray := ⟨(s.data.toList.set k c).toArray⟩
theorem chB_list (s : ByteArray) (k : Nat) (c : UInt8) : (chB s k c).data.toList = s.data.toList.set k c := by simp [chB]
theorem chB_size (s : ByteArray) (k : Nat) (c : UInt8) : (chB s k c).size = s.size := by
  have h := congrArg List.length (chB_list s k c)
  rw [List.length_set, Array.length_toList, Array.length_toList] at h
  exact h
theorem chB_bytes {w : World} {b : Nat} {s : ByteArray} {k : Nat} {c : UInt8} {C : Array Value} {ty : TypeId} {mk : Nat × Nat} (hb : w.heap[b]? = some (.cells C ty mk)) (hk : k < s.size)
    (hc : ∀ j, j < s.size → w.cell? ⟨b, j, none⟩ = some (.int .u8 (s.data.toList.getD j 0).toNat)) : Lib.Bytes (w.setCell ⟨b, k, none⟩ (.int .u8 c.toNat)) b 0 (chB s k c) := by
  intro i hi
  have hi2 : i < s.size := by rw [chB_size] at hi; exact hi
  rw [Nat.zero_add]
  have hle : i < s.data.toList.length := by rw [Array.length_toList]; exact hi2
  have e : (chB s k c)[i]'(by rw [chB_size]; exact hi2) = (s.data.toList.set k c)[i]'(by rw [List.length_set]; exact hle) := by
    simp only [← chB_list, Array.getElem_toList]
    rfl
  rw [e]
  by_cases hik : i = k
  · subst hik
    rw [List.getElem_set_self]
    have h0 := hc i hi2
    simp only [World.cell?, World.setCell, Array.getElem?_modify, hb, if_true, Option.map_some] at h0 ⊢
    have hlt : i < C.size := by
      apply Classical.byContradiction
      intro hn
      rw [Array.getElem?_eq_none (by omega)] at h0
      cases h0
    simp [hlt]
  · rw [List.getElem_set_ne (by omega)]
    have h0 := hc i hi2
    have e2 : (s.data.toList.getD i 0) = s.data.toList[i] := by rw [List.getD_eq_getElem?_getD, List.getElem?_eq_getElem hle]; rfl
    rw [e2] at h0
    rw [← h0]
    simp only [World.cell?, World.setCell, Array.getElem?_modify, hb, if_true, Option.map_some]
    simp [Array.getElem?_setIfInBounds, Ne.symm hik]
end Go.Proofs.YtpobnchalcokoaaDoor
namespace Go.Proofs.YtpobnchalcokoaaDoor
open Go Go.Proofs Go.Shelf Go.Proofs.YtpobnchalcokoaaDoor.Pam Go.RowKit
set_option maxRecDepth 100000 in
theorem law_big {w : World} {pv : PV} {v : Value} {l : List Int} (hv : slU pv = some l) (h : PR w (All w) pv v) (hb : l.length > 65536) :
    Calls Tryd.prog 3 #[v] w fun e w' => e = .returned (.bool true) ∧ Below w.heap.size w w' := by
  have hd : decide (l.length > 65536) = true := decide_eq_true hb
  go_enter Tryd.func3, Tryd.ntmps3
  go_wp2_with (go_at_call 4; refine (big_calls hv h).mono ?_)
  rintro _ w1 ⟨rfl, b1⟩
  rw [hd]
  go_wp2
  go_ret
  exact ⟨rfl, b1⟩
theorem apV_no {x : ByteArray} (h : (apV x).2 = false) : (apV x).1 = ⟨#[]⟩ := by
  unfold apV at h ⊢
  split
  · rfl
  · rename_i hc; rw [if_neg hc] at h; cases h
theorem fi_back {n : Int} : (fiV n).2 = false ∨ ((fiV n).2 = true ∧ piV (fiV n).1 = (n, true)) := by
  unfold fiV
  split
  · rename_i h
    exact .inr ⟨rfl, piV_num h.1 h.2⟩
  · exact .inl rfl
set_option maxRecDepth 100000 in
set_option maxHeartbeats 4000000 in
theorem law_open {w : World} {pv : PV} {v : Value} {l : List Int} (hv : slU pv = some l) (h : PR w (All w) pv v) (hb : ¬ l.length > 65536) (hL : LaidW Tryd.prog w) (hs : (apV (daV l)).2 = false) :
    Calls Tryd.prog 3 #[v] w fun e w' => e = .returned (.bool true) ∧ Below w.heap.size w w' := by
  have hno := apV_no hs
  have hd : decide (l.length > 65536) = false := decide_eq_false hb
  have hl := (slU_out hv).2
  have hdf := dfV_b hl
  have hdp := dpV_size hl
  have hda := daV_size hl
  have hps := parse_same hl
  go_enter Tryd.func3, Tryd.ntmps3
  go_wp2_with (go_at_call 4; refine (big_calls hv h).mono ?_)
  rintro _ w1 ⟨rfl, b1⟩
  rw [hd]
  have h1 := prBelow h b1
  have L1 := hL.below b1
  go_wp2_with (go_at_call 5; refine (df_calls hv h1).mono ?_)
  rintro _ w2 ⟨rfl, b2⟩
  have b2 := b1.trans (b2.mono b1.size)
  have h2 := prBelow h b2
  have L2 := hL.below b2
  go_wp2_with (go_at_call 6; refine (formatInt (dfV l) (by omega) (by omega) w2 L2).mono ?_)
  rintro _ w3 ⟨rfl, b3⟩
  have b3 := b2.trans (b3.mono b2.size)
  go_wp2_with (go_at_call 7; refine (sf_calls (dfV l) w3).mono ?_)
  rintro _ w4 ⟨rfl, b4⟩
  have b4 := b3.trans (b4.mono b3.size)
  have h4 := prBelow h b4
  have L4 := hL.below b4
  go_wp2_with (go_at_call 8; refine (dp_calls hv h4).mono ?_)
  rintro _ w5 ⟨rfl, b5⟩
  have b5 := b4.trans (b5.mono b4.size)
  have L5 := hL.below b5
  go_wp2_with (go_at_call 9; refine (parseInt (dpV l) hdp w5 L5).mono ?_)
  rintro _ w6 ⟨rfl, b6⟩
  have b6 := b5.trans (b6.mono b5.size)
  go_wp2_with (go_at_call 10; refine (sp_calls (dpV l) hdp w6).mono ?_)
  rintro _ w7 ⟨rfl, b7⟩
  rw [← hps]
  have b7 := b6.trans (b7.mono b6.size)
  have h7 := prBelow h b7
  go_wp2_with (go_at_call 11; refine (da_calls hv h7).mono ?_)
  rintro _ w8 ⟨rfl, b8⟩
  have b8 := b7.trans (b8.mono b7.size)
  have L8 := hL.below b8
  go_wp2_with (go_at_call 12; refine (appendChecksum (daV l) hda w8 L8).mono ?_)
  rintro _ w9 ⟨rfl, b9⟩
  have b9 := b8.trans (b9.mono b8.size)
  go_wp2_with (go_at_call 13; refine (sa_calls (daV l) hda w9).mono ?_)
  rintro _ wa ⟨rfl, ba⟩
  have ba := b9.trans (ba.mono b9.size)
  have La := hL.below ba
  go_wp2_with (go_at_call 9; refine (parseInt (fiV (dfV l)).1 (fiV_size _) wa La).mono ?_)
  rintro _ wb ⟨rfl, bb⟩
  have bb := ba.trans (bb.mono ba.size)

  rcases fi_back (n := dfV l) with hf | ⟨hf, hp⟩
  · try rw [hf]
    go_wp2
    go_ret
    exact ⟨rfl, bb⟩
  · try rw [hf]
    try rw [hp]
    go_wp2
    go_ret
    exact ⟨rfl, bb⟩
set_option maxRecDepth 100000 in
set_option maxHeartbeats 4000000 in
theorem law_sealed {w : World} {pv : PV} {v : Value} {l : List Int} (hv : slU pv = some l) (h : PR w (All w) pv v) (hb : ¬ l.length > 65536) (hL : LaidW Tryd.prog w) (hs : (apV (daV l)).2 = true) :
    Calls Tryd.prog 3 #[v] w fun e w' => e = .returned (.bool true) ∧ Below w.heap.size w w' := by
  obtain ⟨hse, _, hsz⟩ := apV_yes hs
  have hop := seal_open hs
  have hlen : l.length ≤ 65536 := by omega
  have hd : decide (l.length > 65536) = false := decide_eq_false hb
  have hl := (slU_out hv).2
  have hdf := dfV_b hl
  have hdp := dpV_size hl
  have hda := daV_size hl
  have hps := parse_same hl
  go_enter Tryd.func3, Tryd.ntmps3
  go_wp2_with (go_at_call 4; refine (big_calls hv h).mono ?_)
  rintro _ w1 ⟨rfl, b1⟩
  rw [hd]
  have h1 := prBelow h b1
  have L1 := hL.below b1
  go_wp2_with (go_at_call 5; refine (df_calls hv h1).mono ?_)
  rintro _ w2 ⟨rfl, b2⟩
  have b2 := b1.trans (b2.mono b1.size)
  have h2 := prBelow h b2
  have L2 := hL.below b2
  go_wp2_with (go_at_call 6; refine (formatInt (dfV l) (by omega) (by omega) w2 L2).mono ?_)
  rintro _ w3 ⟨rfl, b3⟩
  have b3 := b2.trans (b3.mono b2.size)
  go_wp2_with (go_at_call 7; refine (sf_calls (dfV l) w3).mono ?_)
  rintro _ w4 ⟨rfl, b4⟩
  have b4 := b3.trans (b4.mono b3.size)
  have h4 := prBelow h b4
  have L4 := hL.below b4
  go_wp2_with (go_at_call 8; refine (dp_calls hv h4).mono ?_)
  rintro _ w5 ⟨rfl, b5⟩
  have b5 := b4.trans (b5.mono b4.size)
  have L5 := hL.below b5
  go_wp2_with (go_at_call 9; refine (parseInt (dpV l) hdp w5 L5).mono ?_)
  rintro _ w6 ⟨rfl, b6⟩
  have b6 := b5.trans (b6.mono b5.size)
  go_wp2_with (go_at_call 10; refine (sp_calls (dpV l) hdp w6).mono ?_)
  rintro _ w7 ⟨rfl, b7⟩
  rw [← hps]
  have b7 := b6.trans (b7.mono b6.size)
  have h7 := prBelow h b7
  go_wp2_with (go_at_call 11; refine (da_calls hv h7).mono ?_)
  rintro _ w8 ⟨rfl, b8⟩
  have b8 := b7.trans (b8.mono b7.size)
  have L8 := hL.below b8
  go_wp2_with (go_at_call 12; refine (appendChecksum (daV l) hda w8 L8).mono ?_)
  rintro _ w9 ⟨rfl, b9⟩
  have b9 := b8.trans (b9.mono b8.size)
  go_wp2_with (go_at_call 13; refine (sa_calls (daV l) hda w9).mono ?_)
  rintro _ wa ⟨rfl, ba⟩
  have ba := b9.trans (ba.mono b9.size)
  have La := hL.below ba
  go_wp2_with (go_at_call 9; refine (parseInt (fiV (dfV l)).1 (fiV_size _) wa La).mono ?_)
  rintro _ wb ⟨rfl, bb⟩
  have bb := ba.trans (bb.mono ba.size)

  try rw [hse]
  have Lb := hL.below bb
  rcases fi_back (n := dfV l) with hf | ⟨hf, hp⟩
  · try rw [hf]
    go_wp2_with (go_at_call 14; refine (verifyChecksum (sealB (daV l)) hsz wb Lb).mono ?_)
    rintro _ wc ⟨rfl, bc⟩
    try rw [hop]
    have bc := bb.trans (bc.mono bb.size)
    have hc := prBelow h bc
    have hcv := Lib.run_convert_string_bytes (P := Tryd.prog) wc 9 22 5 (sealB (daV l)) (u := .string) Tryd.underlying9 Tryd.underlying22 Tryd.underlying5
    have hB1 := Go.Joins.below_bytesWorld wc.heap.size wc 5 (sealB (daV l)) (Nat.le_refl _)
    have hB2 := Lib.bytesWorld_at_new wc 5 (sealB (daV l))
    have hB3 := Lib.bytesWorld_size wc 5 (sealB (daV l))
    have hB4 : ∀ j, j < (sealB (daV l)).size → (Lib.bytesWorld wc 5 (sealB (daV l))).cell? ⟨wc.heap.size, j, none⟩ = some (.int .u8 ((sealB (daV l)).data.toList.getD j 0).toNat) := fun j hj => Lib.bytesWorld_cell wc 5 _ j hj
    generalize Lib.bytesWorld wc 5 (sealB (daV l)) = W1 at hcv hB1 hB2 hB3 hB4
    have b1 := bc.trans (hB1.mono bc.size)
    have hW := prBelow h b1
    have hzs := sealB_size (daV l)
    have hz0 : ¬ ((sealB (daV l)).size : Int) = 0 := by omega
    go_wp2_with (go_at_call 15; refine (at_calls hv hlen 9 (by decide) (by decide) hW).mono ?_)
    rintro _ wd ⟨rfl, bd0⟩
    go_wp2
    have hva := vaV_b hl 9 (by decide)
    have hvb := vaV_b hl 10 (by decide)
    have bd := b1.trans (bd0.mono b1.size)
    obtain ⟨k, hk, hkl⟩ : ∃ k : Nat, (vaV l 9).tmod ((sealB (daV l)).size : Int) = (k : Int) ∧ k < (sealB (daV l)).size := ⟨((vaV l 9).tmod ((sealB (daV l)).size : Int)).toNat, by have := Int.tmod_nonneg (b := ((sealB (daV l)).size : Int)) hva.1; omega, by have := Int.tmod_nonneg (b := ((sealB (daV l)).size : Int)) hva.1; have := Int.tmod_lt_of_pos (vaV l 9) (b := ((sealB (daV l)).size : Int)) (by omega); omega⟩
    rw [hk]
    have hkI : (k : Int) < ((sealB (daV l)).size : Int) := by omega
    refine wp_region_still_tail 13 mixed (by kernel_rfl) ?_
    simp only [List.take_succ_cons, List.take_zero, List.drop_succ_cons, List.drop_zero]
    have hkl2 : k < (sealB (daV l)).data.toList.length := by rw [Array.length_toList]; exact hkl
    obtain ⟨old, hold⟩ : ∃ o : UInt8, o = (sealB (daV l)).data.toList[k] := ⟨_, rfl⟩
    have hgd : (sealB (daV l)).data.toList.getD k 0 = old := by rw [List.getD_eq_getElem?_getD, List.getElem?_eq_getElem hkl2, hold]; rfl
    have hck : wd.cell? ⟨wc.heap.size, k, none⟩ = some (.int .u8 old.toNat) := by rw [← hgd]; rw [bd0.cell (by show wc.heap.size < _; omega)]; exact hB4 k hkl
    have hsh : ∀ (c : UInt8) (z : ByteArray), old ≠ c → z.data.toList = (sealB (daV l)).data.toList.set k c → vfV z = (⟨#[]⟩, false) := fun c z hne hy => changed_shut hs hkl2 (by rw [← hold]; exact hne) hy
    clear hold hgd
    have hWd : PR wd.drew (All wd.drew) pv v := prBelow h bd.drew
    have hat := at_same hv hlen hWd
    generalize vaV l 10 = u at hat hvb
    obtain ⟨m, hm, hml⟩ : ∃ m : Nat, u.tmod 255 = (m : Int) ∧ m < 255 := ⟨(u.tmod 255).toNat, by have := Int.tmod_nonneg (b := 255) hvb.1; omega, by have := Int.tmod_nonneg (b := 255) hvb.1; have := Int.tmod_lt_of_pos u (b := 255) (by decide); omega⟩
    still_step
    still_step
    still_step
    still_step
    still_step
    still_step
    still_step
    still_call hat
    still_step
    still_step
    still_step
    still_step
    still_step
    try refine wpStill_nil ?_
    change wpList _ _ _ _ _ wd.drew
    have be := bd.drew
    have hbk : wd.drew.heap[wc.heap.size]? = some (.cells (Lib.bytesCells wc 5 (sealB (daV l))) 5 ((Lib.bytesCells wc 5 (sealB (daV l))).size, (Lib.bytesCells wc 5 (sealB (daV l))).size + 1)) := by
      show wd.heap[wc.heap.size]? = _
      rw [bd0.block _ (by omega)]; exact hB2
    have hsz2 : wc.heap.size < wd.drew.heap.size := by
      have := bd0.size
      show wc.heap.size < wd.heap.size
      omega
    have hcd : ∀ j, j < (sealB (daV l)).size → wd.drew.cell? ⟨wc.heap.size, j, none⟩ = some (.int .u8 ((sealB (daV l)).data.toList.getD j 0).toNat) := fun j hj => by
      show wd.cell? _ = _
      rw [bd0.cell (by show wc.heap.size < _; omega)]; exact hB4 j hj
    have hck2 : wd.drew.cell? ⟨wc.heap.size, k, none⟩ = some (.int .u8 old.toNat) := hck
    clear hck
    generalize wd.drew = we at *
    have hCs : (sealB (daV l)).size ≤ (Lib.bytesCells wc 5 (sealB (daV l))).size := by
      simp only [Lib.bytesCells, Array.size_append, Array.size_map]
      exact Nat.le_add_right _ _
    have hfr : we.frozen? ⟨wc.heap.size, k, none⟩ = false := by
      unfold World.frozen?
      rw [hbk]
      simp
      omega
    have ho := old.toNat_lt
    obtain ⟨new, hnew⟩ : ∃ c : UInt8, c = UInt8.ofNat (old.toNat ^^^ (1 + m)) := ⟨_, rfl⟩
    have hxl : old.toNat ^^^ (1 + m) < 256 := Nat.xor_lt_two_pow (n := 8) (by omega) (by omega)
    have hnt : new.toNat = old.toNat ^^^ (1 + m) := by rw [hnew, UInt8.toNat_ofNat']; exact Nat.mod_eq_of_lt hxl
    have hne : old ≠ new := fun h => by
      have h2 := xor_new (a := old.toNat) (b := 1 + m) (by rw [← hnt, ← h])
      omega
    have hbits : bits .xor .u8 (old.toNat : Int) (1 + (m : Int)) = (new.toNat : Int) := by
      have := xor_u8 old.toNat (1 + m) (by omega) (by omega)
      rw [hnt, ← this]
      rfl
    have hY := chB_bytes (c := new) hbk hkl hcd
    have hYs := chB_size (sealB (daV l)) k new
    have hYl := chB_list (sealB (daV l)) k new
    have hcnv := fun cap => Lib.run_convert_whole (P := Tryd.prog) (we.setCell ⟨wc.heap.size, k, none⟩ (.int .u8 new.toNat)) 22 5 9 Tryd.underlying22 Tryd.underlying5 Tryd.underlying9 wc.heap.size 0 (chB (sealB (daV l)) k new) hY cap
    rw [hYs] at hcnv
    have hshut := hsh new (chB (sealB (daV l)) k new) hne hYl
    clear hsh hcd
    have hbw := be.setCell (p := ⟨wc.heap.size, k, none⟩) bc.size (.int .u8 new.toNat)
    have Lw := hL.below hbw
    generalize chB (sealB (daV l)) k new = y' at *
    clear hYl hnew hY hnt hxl
    generalize new.toNat = nv at *
    go_wp2_with (go_at_call 14; refine (verifyChecksum y' (by omega) _ Lw).mono ?_)
    rintro _ wf ⟨rfl, bf⟩
    have bf := hbw.trans (bf.mono hbw.size)
    try rw [hshut]
    go_wp2
    go_ret
    exact ⟨rfl, bf⟩
  · try rw [hf]
    try rw [hp]
    go_wp2_with (go_at_call 14; refine (verifyChecksum (sealB (daV l)) hsz wb Lb).mono ?_)
    rintro _ wc ⟨rfl, bc⟩
    try rw [hop]
    have bc := bb.trans (bc.mono bb.size)
    have hc := prBelow h bc
    have hcv := Lib.run_convert_string_bytes (P := Tryd.prog) wc 9 22 5 (sealB (daV l)) (u := .string) Tryd.underlying9 Tryd.underlying22 Tryd.underlying5
    have hB1 := Go.Joins.below_bytesWorld wc.heap.size wc 5 (sealB (daV l)) (Nat.le_refl _)
    have hB2 := Lib.bytesWorld_at_new wc 5 (sealB (daV l))
    have hB3 := Lib.bytesWorld_size wc 5 (sealB (daV l))
    have hB4 : ∀ j, j < (sealB (daV l)).size → (Lib.bytesWorld wc 5 (sealB (daV l))).cell? ⟨wc.heap.size, j, none⟩ = some (.int .u8 ((sealB (daV l)).data.toList.getD j 0).toNat) := fun j hj => Lib.bytesWorld_cell wc 5 _ j hj
    generalize Lib.bytesWorld wc 5 (sealB (daV l)) = W1 at hcv hB1 hB2 hB3 hB4
    have b1 := bc.trans (hB1.mono bc.size)
    have hW := prBelow h b1
    have hzs := sealB_size (daV l)
    have hz0 : ¬ ((sealB (daV l)).size : Int) = 0 := by omega
    go_wp2_with (go_at_call 15; refine (at_calls hv hlen 9 (by decide) (by decide) hW).mono ?_)
    rintro _ wd ⟨rfl, bd0⟩
    go_wp2
    have hva := vaV_b hl 9 (by decide)
    have hvb := vaV_b hl 10 (by decide)
    have bd := b1.trans (bd0.mono b1.size)
    obtain ⟨k, hk, hkl⟩ : ∃ k : Nat, (vaV l 9).tmod ((sealB (daV l)).size : Int) = (k : Int) ∧ k < (sealB (daV l)).size := ⟨((vaV l 9).tmod ((sealB (daV l)).size : Int)).toNat, by have := Int.tmod_nonneg (b := ((sealB (daV l)).size : Int)) hva.1; omega, by have := Int.tmod_nonneg (b := ((sealB (daV l)).size : Int)) hva.1; have := Int.tmod_lt_of_pos (vaV l 9) (b := ((sealB (daV l)).size : Int)) (by omega); omega⟩
    rw [hk]
    have hkI : (k : Int) < ((sealB (daV l)).size : Int) := by omega
    refine wp_region_still_tail 13 mixed (by kernel_rfl) ?_
    simp only [List.take_succ_cons, List.take_zero, List.drop_succ_cons, List.drop_zero]
    have hkl2 : k < (sealB (daV l)).data.toList.length := by rw [Array.length_toList]; exact hkl
    obtain ⟨old, hold⟩ : ∃ o : UInt8, o = (sealB (daV l)).data.toList[k] := ⟨_, rfl⟩
    have hgd : (sealB (daV l)).data.toList.getD k 0 = old := by rw [List.getD_eq_getElem?_getD, List.getElem?_eq_getElem hkl2, hold]; rfl
    have hck : wd.cell? ⟨wc.heap.size, k, none⟩ = some (.int .u8 old.toNat) := by rw [← hgd]; rw [bd0.cell (by show wc.heap.size < _; omega)]; exact hB4 k hkl
    have hsh : ∀ (c : UInt8) (z : ByteArray), old ≠ c → z.data.toList = (sealB (daV l)).data.toList.set k c → vfV z = (⟨#[]⟩, false) := fun c z hne hy => changed_shut hs hkl2 (by rw [← hold]; exact hne) hy
    clear hold hgd
    have hWd : PR wd.drew (All wd.drew) pv v := prBelow h bd.drew
    have hat := at_same hv hlen hWd
    generalize vaV l 10 = u at hat hvb
    obtain ⟨m, hm, hml⟩ : ∃ m : Nat, u.tmod 255 = (m : Int) ∧ m < 255 := ⟨(u.tmod 255).toNat, by have := Int.tmod_nonneg (b := 255) hvb.1; omega, by have := Int.tmod_nonneg (b := 255) hvb.1; have := Int.tmod_lt_of_pos u (b := 255) (by decide); omega⟩
    still_step
    still_step
    still_step
    still_step
    still_step
    still_step
    still_step
    still_call hat
    still_step
    still_step
    still_step
    still_step
    still_step
    try refine wpStill_nil ?_
    change wpList _ _ _ _ _ wd.drew
    have be := bd.drew
    have hbk : wd.drew.heap[wc.heap.size]? = some (.cells (Lib.bytesCells wc 5 (sealB (daV l))) 5 ((Lib.bytesCells wc 5 (sealB (daV l))).size, (Lib.bytesCells wc 5 (sealB (daV l))).size + 1)) := by
      show wd.heap[wc.heap.size]? = _
      rw [bd0.block _ (by omega)]; exact hB2
    have hsz2 : wc.heap.size < wd.drew.heap.size := by
      have := bd0.size
      show wc.heap.size < wd.heap.size
      omega
    have hcd : ∀ j, j < (sealB (daV l)).size → wd.drew.cell? ⟨wc.heap.size, j, none⟩ = some (.int .u8 ((sealB (daV l)).data.toList.getD j 0).toNat) := fun j hj => by
      show wd.cell? _ = _
      rw [bd0.cell (by show wc.heap.size < _; omega)]; exact hB4 j hj
    have hck2 : wd.drew.cell? ⟨wc.heap.size, k, none⟩ = some (.int .u8 old.toNat) := hck
    clear hck
    generalize wd.drew = we at *
    have hCs : (sealB (daV l)).size ≤ (Lib.bytesCells wc 5 (sealB (daV l))).size := by
      simp only [Lib.bytesCells, Array.size_append, Array.size_map]
      exact Nat.le_add_right _ _
    have hfr : we.frozen? ⟨wc.heap.size, k, none⟩ = false := by
      unfold World.frozen?
      rw [hbk]
      simp
      omega
    have ho := old.toNat_lt
    obtain ⟨new, hnew⟩ : ∃ c : UInt8, c = UInt8.ofNat (old.toNat ^^^ (1 + m)) := ⟨_, rfl⟩
    have hxl : old.toNat ^^^ (1 + m) < 256 := Nat.xor_lt_two_pow (n := 8) (by omega) (by omega)
    have hnt : new.toNat = old.toNat ^^^ (1 + m) := by rw [hnew, UInt8.toNat_ofNat']; exact Nat.mod_eq_of_lt hxl
    have hne : old ≠ new := fun h => by
      have h2 := xor_new (a := old.toNat) (b := 1 + m) (by rw [← hnt, ← h])
      omega
    have hbits : bits .xor .u8 (old.toNat : Int) (1 + (m : Int)) = (new.toNat : Int) := by
      have := xor_u8 old.toNat (1 + m) (by omega) (by omega)
      rw [hnt, ← this]
      rfl
    have hY := chB_bytes (c := new) hbk hkl hcd
    have hYs := chB_size (sealB (daV l)) k new
    have hYl := chB_list (sealB (daV l)) k new
    have hcnv := fun cap => Lib.run_convert_whole (P := Tryd.prog) (we.setCell ⟨wc.heap.size, k, none⟩ (.int .u8 new.toNat)) 22 5 9 Tryd.underlying22 Tryd.underlying5 Tryd.underlying9 wc.heap.size 0 (chB (sealB (daV l)) k new) hY cap
    rw [hYs] at hcnv
    have hshut := hsh new (chB (sealB (daV l)) k new) hne hYl
    clear hsh hcd
    have hbw := be.setCell (p := ⟨wc.heap.size, k, none⟩) bc.size (.int .u8 new.toNat)
    have Lw := hL.below hbw
    generalize chB (sealB (daV l)) k new = y' at *
    clear hYl hnew hY hnt hxl
    generalize new.toNat = nv at *
    go_wp2_with (go_at_call 14; refine (verifyChecksum y' (by omega) _ Lw).mono ?_)
    rintro _ wf ⟨rfl, bf⟩
    have bf := hbw.trans (bf.mono hbw.size)
    try rw [hshut]
    go_wp2
    go_ret
    exact ⟨rfl, bf⟩
end Go.Proofs.YtpobnchalcokoaaDoor
namespace Go.Proofs.YtpobnchalcokoaaDoor
open Go Go.Proofs Go.Proofs.YtpobnchalcokoaaDoor.Pam Go.ChangeShapes Go.WideShapes Go.ChangeAt Go.RowKit Go.Joins
theorem law_all {w : World} {pv : PV} {v : Value} {l : List Int} (hv : slU pv = some l) (h : PR w (All w) pv v) (hL : LaidW Tryd.prog w) :
    Calls Tryd.prog 3 #[v] w fun e w' => e = .returned (.bool true) ∧ Below w.heap.size w w' := by
  by_cases hb : l.length > 65536
  · exact law_big hv h hb
  · cases hs : (apV (daV l)).2 with
    | false => exact law_open hv h hb hL hs
    | true => exact law_sealed hv h hb hL hs
/-! what the row's condition gives -/
theorem star : "*" ++ "errors.errorString" = "*errors.errorString" := by decide
theorem row85 (u : TypeId) (h : Tryd.prog.typeName? 3 u = some "*errors.errorString") : u = 85 :=
  typeName_ptr_named (nm := "errors.errorString") (by rw [star]; kernel_rfl) (by kernel_rfl) (by decide) u (by rw [star]; exact h)
theorem c87 : Tryd.prog.cellsOf 87 = 1 := by kernel_rfl
theorem c9 : Tryd.prog.cellsOf 9 = 1 := by kernel_rfl
abbrev laid5 : List (String × DataW Unit) := Rows.fnStringsRow.laid
theorem of_laid {W : World} (h : laidMetH Tryd.prog laid5 W) : LaidW Tryd.prog W := by
  rw [MakeChecks.laidMetH_plain _ _ _ (by kernel_rfl)] at h
  have h2 := h.tail.tail
  have h3 := h2.tail
  have h4 := h3.tail
  have hd : Rows.laid_internal_strconv_uint64pow10 (H := Unit) = Lib.tabData .u64 Lib.pow10Tab := by kernel_rfl
  refine ⟨?_, ?_, ?_⟩
  · refine Lib.tabIs_of_head (g := 3) (t := 78) (e := 33) (n := 20) (by kernel_rfl) (by kernel_rfl) Tryd.underlying78 Tryd.underlying33 (by kernel_rfl) (by kernel_rfl) (rest := laid5.drop 3) ?_
    rw [← hd]
    exact h2
  · obtain ⟨a, s, hv, -, -, -⟩ := laid_sentinel h4 (g := 0) (ti := 45) (tp := 85) (te := 87) (by kernel_rfl) (by kernel_rfl) Tryd.underlying45 row85 Tryd.underlying85 Tryd.underlying87 rfl rfl Tryd.underlying9 c87 c9
    exact ⟨_, _, hv⟩
  · obtain ⟨a, s, hv, -, -, -⟩ := laid_sentinel h3 (g := 1) (ti := 45) (tp := 85) (te := 87) (by kernel_rfl) (by kernel_rfl) Tryd.underlying45 row85 Tryd.underlying85 Tryd.underlying87 rfl rfl Tryd.underlying9 c87 c9
    exact ⟨_, _, hv⟩
/-- The door's own heap meets the condition. -/
theorem door_met (os : Os) (args : Array Value) : laidMetH Tryd.prog laid5 ((World.doorLaid Tryd.prog 62 os).forCall (fun _ _ => 0) ⟨#[], args, []⟩).memory :=
  laidMetH_of_parts3 (fuel := 8) (laidMet_of_run' 8 (by kernel_rfl) (by kernel_rfl)) (by kernel_rfl) (by kernel_rfl)
theorem own : ownKnob Tryd.prog.godebug = none := by kernel_rfl
theorem laidOut : laidOutB Tryd.prog = true := by kernel_rfl
set_option maxRecDepth 100000 in
theorem lifted (os : Os) (started : os.Started) (H : Type) (enc : TypeId × Value → H) :
    ReturnsInHanded {} Tryd.checked os 3 .any (fun w args => (Rows.fnStringsSpec.pre enc Tryd.prog Tryd.f3 [] false w args ∧ laidMetH Tryd.prog laid5 w) ∧ sizedMet enc Tryd.prog Tryd.f3 (OpenSpec.ofChange Rows.fnStringsSpec) false w args)
      (Rows.fnStringsSpec.post enc Tryd.prog Tryd.f3 false true false false) := by
  refine returnsInHanded_of_change_and (C := Tryd.checked) (X := fun w _ => laidMetH Tryd.prog laid5 w) (fun _ _ _ hh h => h.of_heap hh) own started (by kernel_rfl) Tryd.func3
    (ChangeSpec.witness_shaped (enc := enc) (C := Tryd.checked) (os := os) (X := fun w _ => laidMetH Tryd.prog laid5 w) false (World.doorLaid Tryd.prog 62 os) #[.slice none 0 0] 8 rfl (World.shaped_of_RefB (by kernel_rfl) (by kernel_rfl)) (by kernel_rfl) (by kernel_rfl) (by kernel_rfl) (door_met os _)) ?_
  intro W base args ds gs before hval0 hW _ _ hL _
  have hval : ∀ (j : Nat) t v, Tryd.f3.params[j]? = some t → args[j]? = some v → Value.okWide Tryd.prog W .any base t v := hval0
  obtain ⟨p, q, hA0, hV, _, _, _⟩ := id hW
  have hA : DataW.TrodAll enc Tryd.prog W 0 (fun _ => true) true Tryd.f3.params.toList args.toList ds p := hA0
  rw [Tryd.params3] at hA hval
  obtain ⟨v0, d0, rfl, rfl, h0⟩ := trodAll_one hA
  obtain ⟨pv0, l0, sl0, le0, hp0⟩ := open_bytesV Tryd.underlying22 Tryd.underlying5 (by kernel_rfl) (hval 0 22 v0 rfl rfl) h0
  refine (law_all sl0 hp0 (of_laid hL)).mono fun e W' ⟨he, hb⟩ => ⟨_, he, post_true hW rfl (fun l hl => ?_) laidOut (by kernel_rfl) (by kernel_rfl) Tryd.underlying4 hb⟩
  rw [Tryd.params3] at hl
  match l, hl with
  | [_], _ => rfl
theorem fnStrings_holds : Rows.FnStringsSaid :=
  OpenClaim.holds_of_wide 3 Tryd.f3 rfl rfl rfl rfl rfl rfl rfl ⟨rfl, rfl, rfl, rfl, rfl⟩ rfl rfl rfl rfl rfl (by kernel_rfl) Tryd.func3 (by kernel_rfl)
    (of_decide_eq_true (by kernel_rfl)) (by unfold Func.isWrapper; rw [if_neg (by decide +kernel)]; exact ⟨rfl, rfl⟩)
    (fun os started H enc _ => lifted os started H enc)
theorem fnStringsCard_holds : Rows.FnStringsCardSaid :=
  Claim7.holds_tied_plain_at .later [] [.data, .data, .data, .sentinel, .sentinel] true (true, "b63703f64fa6f1e695b865615d55742b4150f1b9543447a0c6101d31cd917566") true
    fnStrings_holds (fun _ h => by cases h) (by kernel_rfl) (fun _ h => by cases h) fnStrings_row_tie rfl ⟨rfl, rfl⟩ (by kernel_rfl) rfl
    (fun f fn hf hfn => by
      obtain rfl : f = 3 := Option.some.inj ((show Tryd.prog.funcNamed "loop.example/g01269/laws.FnStrings" = some 3 by kernel_rfl).symm.trans hf) |>.symm
      obtain rfl : fn = Tryd.f3 := (Option.some.inj (Tryd.func3.symm.trans hfn)).symm
      exact ⟨by kernel_rfl, fun j t ht => by
        rw [Tryd.params3] at ht
        have hm : t ∈ [22] := by simpa using Array.mem_of_getElem? ht
        have hall : ([22].all fun u => !Tryd.prog.wantsStandIn u) = true := by kernel_rfl
        exact (show Tryd.prog.wantsStandIn t = false by simpa using List.all_eq_true.1 hall t hm)⟩)
    (by kernel_rfl)
#print axioms fnStringsCard_holds
end Go.Proofs.YtpobnchalcokoaaDoor
