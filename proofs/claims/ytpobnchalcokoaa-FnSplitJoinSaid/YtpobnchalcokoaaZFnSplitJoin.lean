/- FOR EVERY INPUT THE LAW 'FnSplitJoin' RETURNS TRUE, AND THE INPUT READS AS IT DID. No condition beyond the row's own. -/
import Derived.Test.YtpobnchalcokoaaChecked
import Derived.Test.YtpobnchalcokoaaRows
import Derived.Test.YtpobnchalcokoaaARG
import Derived.Shelf.Strings.OnBuilder
import Derived.Shelf.Small.Strs
set_option linter.unusedVariables false
set_option linter.unusedSimpArgs false
namespace Go.Proofs.Ytpobnchalcokoaa
open Go Go.Proofs Go.Proofs.Ytpobnchalcokoaa.Pam Go.ChangeShapes Go.WideShapes Go.ChangeAt Go.RowKit Go.Joins
theorem mixed : Try.prog.follows .mixedOrders = true := by kernel_rfl
def G0 : Gam := Gam.none
theorem gs0 : GS Try.prog G0 := GS.none
def lays156_ren : Go.Shelf.Ren := ⟨fun | 156 => 18 | 165 => 22 | 166 => 23 | 169 => 24 | 240 => 26 | 241 => 27 | 276 => 28 | 277 => 29 | n => n, fun | 31 => 26 | 9 => 9 | 3 => 3 | 4 => 4 | 0 => 0 | 20 => 20 | 72 => 48 | 76 => 52 | 70 => 46 | 37 => 22 | 75 => 51 | 127 => 55 | 164 => 56 | 5 => 5 | 80 => 38 | n => n, fun | n => n⟩
theorem lays156 : Go.Proofs.Lays.n156 Try.prog lays156_ren := {
  mixed := by kernel_rfl
  f156 := Try.func18.trans (congrArg some (by kernel_rfl))
  f165 := Try.func22.trans (congrArg some (by kernel_rfl))
  f166 := Try.func23.trans (congrArg some (by kernel_rfl))
  f169 := Try.func24.trans (congrArg some (by kernel_rfl))
  f240 := Try.func26.trans (congrArg some (by kernel_rfl))
  f241 := Try.func27.trans (congrArg some (by kernel_rfl))
  f276 := Try.func28.trans (congrArg some (by kernel_rfl))
  f277 := Try.func29.trans (congrArg some (by kernel_rfl))
  t0 := Try.underlying0
  a0 := Try.isAgg0
  z0 := Try.sizeOf0
  v0 := Try.zeroValue0
  t3 := Try.underlying3
  a3 := Try.isAgg3
  z3 := Try.sizeOf3
  v3 := Try.zeroValue3
  t4 := Try.underlying4
  a4 := Try.isAgg4
  z4 := Try.sizeOf4
  v4 := Try.zeroValue4
  t9 := Try.underlying9
  a9 := Try.isAgg9
  z9 := Try.sizeOf9
  v9 := Try.zeroValue9
  t20 := Try.underlying20
  a20 := Try.isAgg20
  z20 := Try.sizeOf20
  v20 := Try.zeroValue20
  t31 := Try.underlying26
  a31 := Try.isAgg26
  z31 := Try.sizeOf26
  v31 := Try.zeroValue26
  t37 := Try.underlying22
  a37 := Try.isAgg22
  z37 := Try.sizeOf22
  v37 := Try.zeroValue22
  t70 := Try.underlying46
  a70 := Try.isAgg46
  z70 := Try.sizeOf46
  v70 := Try.zeroValue46
  t72 := Try.underlying48
  a72 := Try.isAgg48
  z72 := Try.sizeOf48
  v72 := Try.zeroValue48
  t75 := Try.underlying51
  a75 := Try.isAgg51
  z75 := Try.sizeOf51
  v75 := Try.zeroValue51
  t76 := Try.underlying52
  a76 := Try.isAgg52
  z76 := Try.sizeOf52
  v76 := Try.zeroValue52
  t127 := Try.underlying55
  a127 := Try.isAgg55
  z127 := Try.sizeOf55
  v127 := Try.zeroValue55
  t164 := Try.underlying56
  a164 := Try.isAgg56
  z164 := Try.sizeOf56
  v164 := Try.zeroValue56 }
theorem Builder_Extra_156 : Builder.Extra Try.prog lays156_ren := {
  sizeBuilder := by kernel_rfl
  liesBuilder := by kernel_rfl
  t5 := Try.underlying5
  a5 := Try.isAgg5
  z5 := Try.sizeOf5
  v5 := Try.zeroValue5
  infoByte := by kernel_rfl
  cellsByte := by kernel_rfl
  sizeByte := by kernel_rfl
  neB5 := by decide }
theorem strings_Join (bk o c : Nat) (xs : List ByteArray) (sep : ByteArray) (w : World) (hcells : ∀ (j : Nat) x, xs[j]? = some x → w.cell? ⟨bk, o + j, none⟩ = some (.string x)) (hbk : bk < w.heap.size) (hN : xs.length ≤ 140737488355328) (hcap : xs.length ≤ c) (hlen : (Lib.join (xs.map (·.data.toList)) sep.data.toList).length ≤ 140737488355328) :
    Calls Try.prog 18 #[.slice (some ⟨bk, o, none⟩) xs.length c, .string sep] w fun e w' => e = .returned (.string ⟨(Lib.join (xs.map (·.data.toList)) sep.data.toList).toArray⟩) ∧ Below w.heap.size w w' := Any.strings_Join lays156 Builder_Extra_156 bk o c xs sep w hcells hbk hN hcap hlen
def lays137_ren : Go.Shelf.Ren := ⟨fun | 137 => 17 | 217 => 21 | 266 => 25 | n => n, fun | 9 => 9 | 5 => 5 | 3 => 3 | n => n, fun | n => n⟩
theorem lays137 : Go.Proofs.Lays.n137 Try.prog lays137_ren := {
  mixed := by kernel_rfl
  f137 := Try.func17.trans (congrArg some (by kernel_rfl))
  f217 := Try.func21.trans (congrArg some (by kernel_rfl))
  f266 := Try.func25.trans (congrArg some (by kernel_rfl))
  t3 := Try.underlying3
  a3 := Try.isAgg3
  z3 := Try.sizeOf3
  v3 := Try.zeroValue3
  t5 := Try.underlying5
  a5 := Try.isAgg5
  z5 := Try.sizeOf5
  v5 := Try.zeroValue5
  t9 := Try.underlying9
  a9 := Try.isAgg9
  z9 := Try.sizeOf9
  v9 := Try.zeroValue9 }
theorem strings_IndexByte (s : ByteArray) (c : Int) (w : World) :
    Calls Try.prog 17 #[.string s, .int .u8 c] w fun e w' => e = .returned (.int .i64 (Lib.indexByte s.data.toList c.toNat.toUInt8)) ∧ w' = w := Any.strings_IndexByte lays137 s c w
theorem is4 : Is Try.prog 4 a_vBig := Is.mk' n_vBig Try.func4 (by kernel_rfl) (by kernel_rfl)
def G1 : Gam := G0.addX 4 c_vBig
theorem gs1 : GS Try.prog G1 := GS.addX gs0 (s_vBig mixed gs0 is4)
theorem is20 : Is Try.prog 20 a_next := Is.mk' n_next Try.func20 (by kernel_rfl) (by kernel_rfl)
def G2 : Gam := G1.addX 20 c_next
theorem gs2 : GS Try.prog G2 := GS.addX gs1 (s_next mixed gs1 is20)
theorem is15 : Is Try.prog 15 (a_pick 20) := Is.mk' n_pick Try.func15 (by kernel_rfl) (by kernel_rfl)
def G3 : Gam := G2.addX 15 c_pick
theorem gs3 : GS Try.prog G3 := GS.addX gs2 (s_pick mixed gs2 is15 rfl)
theorem is14 : Is Try.prog 14 (a_ofT 15) := Is.mk' n_ofT Try.func14 (by kernel_rfl) (by kernel_rfl)
def G4 : Gam := G3.addX 14 c_ofT
theorem gs4 : GS Try.prog G4 := GS.addX gs3 (s_ofT mixed gs3 is14 rfl)
theorem is13 : Is Try.prog 13 (a_any1 14) := Is.mk' n_any1 Try.func13 (by kernel_rfl) (by kernel_rfl)
def G5 : Gam := G4.addX 13 c_any1
theorem gs5 : GS Try.prog G5 := GS.addX gs4 (s_any1 mixed gs4 is13 rfl)
theorem is5 : Is Try.prog 5 (a_DrawSplitString 13 14) := Is.mk' n_DrawSplitString Try.func5 (by kernel_rfl) (by kernel_rfl)
def G6 : Gam := G5.addX 5 c_DrawSplitString
theorem gs6 : GS Try.prog G6 := GS.addX gs5 (s_DrawSplitString mixed gs5 is5 rfl rfl)
theorem is6 : Is Try.prog 6 a_SplitString := Is.mk' n_SplitString Try.func6 (by kernel_rfl) (by kernel_rfl)
def G7 : Gam := G6.addX 6 c_SplitString
theorem gs7 : GS Try.prog G7 := GS.addX gs6 (s_SplitString mixed gs6 is6)
theorem is16 : Is Try.prog 16 (a_one 15) := Is.mk' n_one Try.func16 (by kernel_rfl) (by kernel_rfl)
def G8 : Gam := G7.addX 16 c_one
theorem gs8 : GS Try.prog G8 := GS.addX gs7 (s_one mixed gs7 is16 rfl)
theorem is7 : Is Try.prog 7 (a_DrawJoinStrings 15 13 16 14) := Is.mk' n_DrawJoinStrings Try.func7 (by kernel_rfl) (by kernel_rfl)
def G9 : Gam := G8.addX 7 c_DrawJoinStrings
theorem gs9 : GS Try.prog G9 := GS.addX gs8 (s_DrawJoinStrings mixed gs8 is7 rfl rfl rfl rfl)
def G10 : Gam := G9.addX 17 c_IndexByte
theorem gs10 : GS Try.prog G10 := GS.addX gs9 (says_IndexByte ⟨Try.f17, Try.func17, by kernel_rfl, by kernel_rfl⟩ strings_IndexByte)
def G11 : Gam := G10.addX 18 c_Join
theorem gs11 : GS Try.prog G11 := GS.addX gs10 (says_Join ⟨Try.f18, Try.func18, by kernel_rfl, by kernel_rfl⟩ strings_Join)
theorem is8 : Is Try.prog 8 (a_implJoin 17 18) := Is.mk' n_implJoin Try.func8 (by kernel_rfl) (by kernel_rfl)
def G12 : Gam := G11.addX 8 c_implJoin
theorem gs12 : GS Try.prog G12 := GS.addX gs11 (s_implJoin mixed gs11 is8 rfl rfl)
theorem is19 : Is Try.prog 19 a_stands := Is.mk' n_stands Try.func19 (by kernel_rfl) (by kernel_rfl)
def G13 : Gam := G12.addX 19 c_stands
theorem gs13 : GS Try.prog G13 := GS.addX gs12 (s_stands mixed gs12 is19)
theorem is9 : Is Try.prog 9 (a_specJoin 19) := Is.mk' n_specJoin Try.func9 (by kernel_rfl) (by kernel_rfl)
def G14 : Gam := G13.addX 9 c_implJoin
theorem gs14 : GS Try.prog G14 := GS.addX gs13 (s_specJoin mixed gs13 is9 rfl)
theorem is10 : Is Try.prog 10 (a_DrawLessString 13) := Is.mk' n_DrawLessString Try.func10 (by kernel_rfl) (by kernel_rfl)
def G15 : Gam := G14.addX 10 c_DrawLessString
theorem gs15 : GS Try.prog G15 := GS.addX gs14 (s_DrawLessString mixed gs14 is10 rfl)
theorem is11 : Is Try.prog 11 a_LessString := Is.mk' n_LessString Try.func11 (by kernel_rfl) (by kernel_rfl)
def G16 : Gam := G15.addX 11 c_LessString
theorem gs16 : GS Try.prog G16 := GS.addX gs15 (s_LessString mixed gs15 is11)
theorem is12 : Is Try.prog 12 a_LessString2 := Is.mk' n_LessString2 Try.func12 (by kernel_rfl) (by kernel_rfl)
def G17 : Gam := G16.addX 12 c_LessString
theorem gs17 : GS Try.prog G17 := GS.addX gs16 (s_LessString2 mixed gs16 is12)
theorem is3 : Is Try.prog 3 (a_x_SplitJoin 4 5 6 7 8 9 10 11 12) := Is.mk' n_x_SplitJoin Try.func3 (by kernel_rfl) (by kernel_rfl)
theorem law : Says Try.prog 3 c_x_SplitJoin := s_x_SplitJoin mixed gs17 is3 rfl rfl rfl rfl rfl rfl rfl rfl rfl
theorem own : ownKnob Try.prog.godebug = none := by kernel_rfl
theorem laidOut : laidOutB Try.prog = true := by kernel_rfl
set_option maxRecDepth 100000 in
theorem lifted (os : Os) (started : os.Started) (H : Type) (enc : TypeId × Value → H) :
    ReturnsInHanded {} Try.checked os 3 .any (Rows.fnSplitJoinSpec.pre6 enc Try.prog Try.f3 Rows.fnSplitJoinRow.domain false) (Rows.fnSplitJoinSpec.post enc Try.prog Try.f3 false true false false) := by
  refine returnsInHanded_of_change (C := Try.checked) own started (by kernel_rfl) Try.func3
    (ChangeSpec.witness6 (enc := enc) (C := Try.checked) false ⟨#[], #[.slice none 0 0], []⟩ 8 (by kernel_rfl) (by kernel_rfl) (by kernel_rfl) (by kernel_rfl)) ?_
  intro W base args ds gs before hval0 hW _ _
  have hval : ∀ (j : Nat) t v, Try.f3.params[j]? = some t → args[j]? = some v → Value.okWide Try.prog W .any base t v := hval0
  obtain ⟨p, q, hA0, hV, _, _, _⟩ := id hW
  have hA : DataW.TrodAll enc Try.prog W 0 (fun _ => true) true Try.f3.params.toList args.toList ds p := hA0
  rw [Try.params3] at hA hval
  obtain ⟨v0, d0, rfl, rfl, h0⟩ := trodAll_one hA
  obtain ⟨pv0, l0, sl0, le0, hp0⟩ := open_bytesV Try.underlying22 Try.underlying5 (by kernel_rfl) (hval 0 22 v0 rfl rfl) h0
  have hcon : c_x_SplitJoin ([pv0].map .p) [] = some (.p (.bool true), [], []) := by simp [c_x_SplitJoin, pure', sl0, le0]
  refine (calls_true (args := [pv0]) (law _ _ _ _ _ hcon) rfl fun i hi => ?_).mono fun e W' ⟨he, hb⟩ => ⟨_, he, post_true hW rfl (fun l hl => ?_) laidOut (by kernel_rfl) (by kernel_rfl) Try.underlying4 hb⟩
  · match i, hi with
    | 0, _ => exact hp0
  · rw [Try.params3] at hl
    match l, hl with
    | [_], _ => rfl

theorem fnSplitJoin_holds : Rows.FnSplitJoinSaid :=
  OpenClaim.holds_of_wide 3 Try.f3 rfl rfl rfl rfl rfl rfl rfl ⟨rfl, rfl, rfl, rfl, rfl⟩ rfl rfl rfl rfl rfl (by kernel_rfl) Try.func3 (by kernel_rfl)
    (of_decide_eq_true (by kernel_rfl)) (by unfold Func.isWrapper; rw [if_neg (by decide +kernel)]; exact ⟨rfl, rfl⟩)
    (fun os started H enc _ => lifted os started H enc)
#print axioms fnSplitJoin_holds
end Go.Proofs.Ytpobnchalcokoaa
