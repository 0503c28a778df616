/- FOR EVERY INPUT THE LAW 'FnExactRepeatTree' RETURNS TRUE, AND THE INPUT READS AS IT DID. No condition beyond the row's own. -/
import Derived.Test.YtnjdlhinekfghaaChecked
import Derived.Test.YtnjdlhinekfghaaRows
import Derived.Test.YtnjdlhinekfghaaGaON
set_option linter.unusedVariables false
set_option linter.unusedSimpArgs false
namespace Go.Proofs.Ytnjdlhinekfghaa
open Go Go.Proofs Go.Proofs.Ytnjdlhinekfghaa.Pam Go.ChangeShapes Go.WideShapes Go.ChangeAt Go.RowKit Go.Joins
theorem mixed : Try.prog.follows .mixedOrders = true := by kernel_rfl
def G0 : Gam := Gam.none
theorem gs0 : GS Try.prog G0 := GS.none
theorem is13 : Is Try.prog 13 a_l1In := Is.mk' n_l1In Try.func13 (by kernel_rfl) (by kernel_rfl)
def G1 : Gam := G0.addX 13 c_in
theorem gs1 : GS Try.prog G1 := GS.addX gs0 (s_l1In mixed gs0 is13)
theorem is23 : Is Try.prog 23 (a_l2Numbers 13) := Is.mk' n_l2Numbers Try.func23 (by kernel_rfl) (by kernel_rfl)
def G2 : Gam := G1.addX 23 c_isCount
theorem gs2 : GS Try.prog G2 := GS.addX gs1 (s_l2Numbers mixed gs1 is23 rfl)
theorem is12 : Is Try.prog 12 (a_l2Asks 23 13) := Is.mk' n_l2Asks Try.func12 (by kernel_rfl) (by kernel_rfl)
def G3 : Gam := G2.addX 12 c_isQuestion
theorem gs3 : GS Try.prog G3 := GS.addX gs2 (s_l2Asks mixed gs2 is12 rfl rfl)
theorem is14 : Is Try.prog 14 a_l9Leaf := Is.mk' n_l9Leaf Try.func14 (by kernel_rfl) (by kernel_rfl)
def G4 : Gam := G3.addX 14 c_l9Leaf
theorem gs4 : GS Try.prog G4 := GS.addX gs3 (s_l9Leaf mixed gs3 is14)
theorem is31 : Is Try.prog 31 a_l9Moved := Is.mk' n_l9Moved Try.func31 (by kernel_rfl) (by kernel_rfl)
def G5 : Gam := G4.addX 31 c_l9Moved
theorem gs5 : GS Try.prog G5 := GS.addX gs4 (s_l9Moved mixed gs4 is31)
theorem is15 : Is Try.prog 15 (a_l9Join 31) := Is.mk' n_l9Join Try.func15 (by kernel_rfl) (by kernel_rfl)
def G6 : Gam := G5.addX 15 c_l9Join
theorem gs6 : GS Try.prog G6 := GS.addX gs5 (s_l9Join mixed gs5 is15 rfl)
theorem is5 : Is Try.prog 5 (a_s_RepeatTree 12 13 14 15) := Is.mk' n_s_RepeatTree Try.func5 (by kernel_rfl) (by kernel_rfl)
def G7 : Gam := G6.addX 5 c_s_RepeatTree
theorem gs7 : GS Try.prog G7 := GS.addX gs6 (s_s_RepeatTree mixed gs6 is5 rfl rfl rfl rfl)
theorem is17 : Is Try.prog 17 a_in := Is.mk' n_in Try.func17 (by kernel_rfl) (by kernel_rfl)
def G8 : Gam := G7.addX 17 c_in
theorem gs8 : GS Try.prog G8 := GS.addX gs7 (s_in mixed gs7 is17)
theorem is27 : Is Try.prog 27 (a_isCount 17) := Is.mk' n_isCount Try.func27 (by kernel_rfl) (by kernel_rfl)
def G9 : Gam := G8.addX 27 c_isCount
theorem gs9 : GS Try.prog G9 := GS.addX gs8 (s_isCount mixed gs8 is27 rfl)
theorem is16 : Is Try.prog 16 (a_isQuestion 27 17) := Is.mk' n_isQuestion Try.func16 (by kernel_rfl) (by kernel_rfl)
def G10 : Gam := G9.addX 16 c_isQuestion
theorem gs10 : GS Try.prog G10 := GS.addX gs9 (s_isQuestion mixed gs9 is16 rfl rfl)
theorem is18 : Is Try.prog 18 (a_repeated 18) := Is.mk' n_repeated Try.func18 (by kernel_rfl) (by kernel_rfl)
def G11 : Gam := G10.addX 18 c_repeated
theorem gs11 : GS Try.prog G11 := GS.addX gs10 (s_repeated mixed gs10 is18 (by decide))
theorem is32 : Is Try.prog 32 a_tree1 := Is.mk' n_tree1 Try.func32 (by kernel_rfl) (by kernel_rfl)
noncomputable def G12 : Gam := G11.addX 32 (c_tree1 32)
theorem gs12 : GS Try.prog G12 := GS.addX gs11 (s_tree1 mixed gs11 is32)
theorem is19 : Is Try.prog 19 (a_tree 32) := Is.mk' n_tree Try.func19 (by kernel_rfl) (by kernel_rfl)
noncomputable def G13 : Gam := G12.addX 19 c_tree
theorem gs13 : GS Try.prog G13 := GS.addX gs12 (s_tree mixed gs12 is19 rfl)
theorem is6 : Is Try.prog 6 (a_RepeatTree 16 17 18 19) := Is.mk' n_RepeatTree Try.func6 (by kernel_rfl) (by kernel_rfl)
noncomputable def G14 : Gam := G13.addX 6 c_RepeatTree
theorem gs14 : GS Try.prog G14 := GS.addX gs13 (s_RepeatTree mixed gs13 is6 rfl rfl rfl rfl)
theorem is33 : Is Try.prog 33 a_eqNode := Is.mk' n_eqNode Try.func33 (by kernel_rfl) (by kernel_rfl)
noncomputable def G15 : Gam := G14.addX 33 c_eqNode
theorem gs15 : GS Try.prog G15 := GS.addX gs14 (s_eqNode mixed gs14 is33)
theorem is20 : Is Try.prog 20 (a_eqNodeS 33) := Is.mk' n_eqNodeS Try.func20 (by kernel_rfl) (by kernel_rfl)
noncomputable def G16 : Gam := G15.addX 20 c_eqNodeS
theorem gs16 : GS Try.prog G16 := GS.addX gs15 (s_eqNodeS mixed gs15 is20 rfl)
theorem is7 : Is Try.prog 7 (a_eqTree 20) := Is.mk' n_eqTree Try.func7 (by kernel_rfl) (by kernel_rfl)
noncomputable def G17 : Gam := G16.addX 7 c_eqTree
theorem gs17 : GS Try.prog G17 := GS.addX gs16 (s_eqTree mixed gs16 is7 rfl)
theorem is21 : Is Try.prog 21 a_markNodeS := Is.mk' n_markNodeS Try.func21 (by kernel_rfl) (by kernel_rfl)
noncomputable def G18 : Gam := G17.addX 21 c_markNodeS
theorem gs18 : GS Try.prog G18 := GS.addX gs17 (s_markNodeS mixed gs17 is21)
theorem is8 : Is Try.prog 8 (a_markTree 21) := Is.mk' n_markTree Try.func8 (by kernel_rfl) (by kernel_rfl)
noncomputable def G19 : Gam := G18.addX 8 c_markTree
theorem gs19 : GS Try.prog G19 := GS.addX gs18 (s_markTree mixed gs18 is8 rfl)
theorem is22 : Is Try.prog 22 a_heldNodeS := Is.mk' n_heldNodeS Try.func22 (by kernel_rfl) (by kernel_rfl)
noncomputable def G20 : Gam := G19.addX 22 c_heldNodeS
theorem gs20 : GS Try.prog G20 := GS.addX gs19 (s_heldNodeS mixed gs19 is22)
theorem is9 : Is Try.prog 9 (a_heldTree 22) := Is.mk' n_heldTree Try.func9 (by kernel_rfl) (by kernel_rfl)
noncomputable def G21 : Gam := G20.addX 9 c_heldTree
theorem gs21 : GS Try.prog G21 := GS.addX gs20 (s_heldTree mixed gs20 is9 rfl)
theorem is3 : Is Try.prog 3 (a_x_RepeatTree 5 6 7 8 9) := Is.mk' n_x_RepeatTree Try.func3 (by kernel_rfl) (by kernel_rfl)
theorem law : Says Try.prog 3 c_x_RepeatTree := s_x_RepeatTree mixed gs21 is3 rfl rfl rfl rfl rfl
theorem own : ownKnob Try.prog.godebug = none := by kernel_rfl
theorem laidOut : laidOutB Try.prog = true := by kernel_rfl
set_option maxRecDepth 100000 in
theorem lifted (os : Os) (started : os.Started) (H : Type) (enc : TypeId × Value → H) :
    ReturnsInHanded {} Try.checked os 3 .any (Rows.fnExactRepeatTreeSpec.pre6 enc Try.prog Try.f3 Rows.fnExactRepeatTreeRow.domain false) (Rows.fnExactRepeatTreeSpec.post enc Try.prog Try.f3 false true false false) := by
  refine returnsInHanded_of_change (C := Try.checked) own started (by kernel_rfl) Try.func3
    (ChangeSpec.witness6 (enc := enc) (C := Try.checked) false ⟨#[], #[.int .i64 0, .int .i64 0, .int .i64 0], []⟩ 8 (by kernel_rfl) (by kernel_rfl) (by kernel_rfl) (by kernel_rfl)) ?_
  intro W base args ds gs before hval0 hW _ _
  have hval : ∀ (j : Nat) t v, Try.f3.params[j]? = some t → args[j]? = some v → Value.okWide Try.prog W .any base t v := hval0
  obtain ⟨p, q, hA0, hV, _, _, _⟩ := id hW
  have hA : DataW.TrodAll enc Try.prog W 0 (fun _ => true) true Try.f3.params.toList args.toList ds p := hA0
  rw [Try.params3] at hA hval
  obtain ⟨v0, v1, v2, d0, d1, d2, p0, p1, p2, rfl, rfl, rfl, h0, h1, h2⟩ := trodAll_three hA
  obtain ⟨n0, rg0, hp0⟩ := open_int' Try.underlying3 (hval 0 3 v0 rfl rfl)
  obtain ⟨n1, rg1, hp1⟩ := open_int' Try.underlying3 (hval 1 3 v1 rfl rfl)
  obtain ⟨n2, rg2, hp2⟩ := open_int' Try.underlying3 (hval 2 3 v2 rfl rfl)
  have hcon : c_x_RepeatTree ([.int .i64 n0, .int .i64 n1, .int .i64 n2].map .p) [] = some (.p (.bool true), [], []) := by simp [c_x_RepeatTree, pure']
  refine (calls_true (args := [.int .i64 n0, .int .i64 n1, .int .i64 n2]) (law _ _ _ _ _ hcon) rfl fun i hi => ?_).mono fun e W' ⟨he, hb⟩ => ⟨_, he, post_true hW rfl (fun l hl => ?_) laidOut (by kernel_rfl) (by kernel_rfl) Try.underlying4 hb⟩
  · match i, hi with
    | 0, _ => exact hp0
    | 1, _ => exact hp1
    | 2, _ => exact hp2
  · rw [Try.params3] at hl
    match l, hl with
    | [_, _, _], _ => rfl

theorem fnExactRepeatTree_holds : Rows.FnExactRepeatTreeSaid :=
  OpenClaim.holds_of_wide 3 Try.f3 rfl rfl rfl rfl rfl rfl rfl ⟨rfl, rfl, rfl, rfl, rfl⟩ rfl rfl rfl rfl rfl (by kernel_rfl) Try.func3 (by kernel_rfl)
    (of_decide_eq_true (by kernel_rfl)) (by unfold Func.isWrapper; rw [if_neg (by decide +kernel)]; exact ⟨rfl, rfl⟩)
    (fun os started H enc _ => lifted os started H enc)
#print axioms fnExactRepeatTree_holds
end Go.Proofs.Ytnjdlhinekfghaa
