/- FOR EVERY INPUT THE LAW 'FnExactHalvingTree' RETURNS TRUE, AND THE INPUT READS AS IT DID. No condition beyond the row's own. -/
import Derived.Test.YtnjdlhinekfghaaChecked
import Derived.Test.YtnjdlhinekfghaaRows
import Derived.Test.YtnjdlhinekfghaaGaON
set_option linter.unusedVariables false
set_option linter.unusedSimpArgs false
namespace Go.Proofs.Ytnjdlhinekfghaa
open Go Go.Proofs Go.Proofs.Ytnjdlhinekfghaa.Pam Go.ChangeShapes Go.WideShapes Go.ChangeAt Go.RowKit Go.Joins
theorem mixed : Try.prog.follows .mixedOrders = true := by kernel_rfl
def G0 : Gam := Gam.none
theorem gs0 : GS Try.prog G0 := GS.none
theorem is13 : Is Try.prog 13 a_l1In := Is.mk' n_l1In Try.func13 (by kernel_rfl) (by kernel_rfl)
def G1 : Gam := G0.addX 13 c_in
theorem gs1 : GS Try.prog G1 := GS.addX gs0 (s_l1In mixed gs0 is13)
theorem is23 : Is Try.prog 23 (a_l2Numbers 13) := Is.mk' n_l2Numbers Try.func23 (by kernel_rfl) (by kernel_rfl)
def G2 : Gam := G1.addX 23 c_isCount
theorem gs2 : GS Try.prog G2 := GS.addX gs1 (s_l2Numbers mixed gs1 is23 rfl)
theorem is26 : Is Try.prog 26 a_start := Is.mk' n_start Try.func26 (by kernel_rfl) (by kernel_rfl)
def G3 : Gam := G2.addX 26 c_start
theorem gs3 : GS Try.prog G3 := GS.addX gs2 (s_start mixed gs2 is26)
theorem is25 : Is Try.prog 25 a_l2Open := Is.mk' n_l2Open Try.func25 (by kernel_rfl) (by kernel_rfl)
def G4 : Gam := G3.addX 25 c_l2Open
theorem gs4 : GS Try.prog G4 := GS.addX gs3 (s_l2Open mixed gs3 is25)
theorem is14 : Is Try.prog 14 a_l9Leaf := Is.mk' n_l9Leaf Try.func14 (by kernel_rfl) (by kernel_rfl)
def G5 : Gam := G4.addX 14 c_l9Leaf
theorem gs5 : GS Try.prog G5 := GS.addX gs4 (s_l9Leaf mixed gs4 is14)
theorem is31 : Is Try.prog 31 a_l9Moved := Is.mk' n_l9Moved Try.func31 (by kernel_rfl) (by kernel_rfl)
def G6 : Gam := G5.addX 31 c_l9Moved
theorem gs6 : GS Try.prog G6 := GS.addX gs5 (s_l9Moved mixed gs5 is31)
theorem is15 : Is Try.prog 15 (a_l9Join 31) := Is.mk' n_l9Join Try.func15 (by kernel_rfl) (by kernel_rfl)
def G7 : Gam := G6.addX 15 c_l9Join
theorem gs7 : GS Try.prog G7 := GS.addX gs6 (s_l9Join mixed gs6 is15 rfl)
theorem is24 : Is Try.prog 24 (a_l9Halves 14 24 15) := Is.mk' n_l9Halves Try.func24 (by kernel_rfl) (by kernel_rfl)
def G8 : Gam := G7.addX 24 c_l9Halves
theorem gs8 : GS Try.prog G8 := GS.addX gs7 (s_l9Halves mixed gs7 is24 (by decide) rfl rfl)
theorem is10 : Is Try.prog 10 (a_s_HalvingTree 23 26 25 24) := Is.mk' n_s_HalvingTree Try.func10 (by kernel_rfl) (by kernel_rfl)
def G9 : Gam := G8.addX 10 c_s_HalvingTree
theorem gs9 : GS Try.prog G9 := GS.addX gs8 (s_s_HalvingTree mixed gs8 is10 rfl rfl rfl rfl)
theorem is17 : Is Try.prog 17 a_in := Is.mk' n_in Try.func17 (by kernel_rfl) (by kernel_rfl)
def G10 : Gam := G9.addX 17 c_in
theorem gs10 : GS Try.prog G10 := GS.addX gs9 (s_in mixed gs9 is17)
theorem is27 : Is Try.prog 27 (a_isCount 17) := Is.mk' n_isCount Try.func27 (by kernel_rfl) (by kernel_rfl)
def G11 : Gam := G10.addX 27 c_isCount
theorem gs11 : GS Try.prog G11 := GS.addX gs10 (s_isCount mixed gs10 is27 rfl)
theorem is29 : Is Try.prog 29 a_start := Is.mk' n_start Try.func29 (by kernel_rfl) (by kernel_rfl)
def G12 : Gam := G11.addX 29 c_start
theorem gs12 : GS Try.prog G12 := GS.addX gs11 (s_start mixed gs11 is29)
theorem is30 : Is Try.prog 30 a_opened := Is.mk' n_opened Try.func30 (by kernel_rfl) (by kernel_rfl)
def G13 : Gam := G12.addX 30 c_l2Open
theorem gs13 : GS Try.prog G13 := GS.addX gs12 (s_opened mixed gs12 is30)
theorem is28 : Is Try.prog 28 (a_halving 28) := Is.mk' n_halving Try.func28 (by kernel_rfl) (by kernel_rfl)
def G14 : Gam := G13.addX 28 c_halving
theorem gs14 : GS Try.prog G14 := GS.addX gs13 (s_halving mixed gs13 is28 (by decide))
theorem is32 : Is Try.prog 32 a_tree1 := Is.mk' n_tree1 Try.func32 (by kernel_rfl) (by kernel_rfl)
noncomputable def G15 : Gam := G14.addX 32 (c_tree1 32)
theorem gs15 : GS Try.prog G15 := GS.addX gs14 (s_tree1 mixed gs14 is32)
theorem is19 : Is Try.prog 19 (a_tree 32) := Is.mk' n_tree Try.func19 (by kernel_rfl) (by kernel_rfl)
noncomputable def G16 : Gam := G15.addX 19 c_tree
theorem gs16 : GS Try.prog G16 := GS.addX gs15 (s_tree mixed gs15 is19 rfl)
theorem is11 : Is Try.prog 11 (a_HalvingTree 27 29 30 28 19) := Is.mk' n_HalvingTree Try.func11 (by kernel_rfl) (by kernel_rfl)
noncomputable def G17 : Gam := G16.addX 11 c_HalvingTree
theorem gs17 : GS Try.prog G17 := GS.addX gs16 (s_HalvingTree mixed gs16 is11 rfl rfl rfl rfl rfl)
theorem is33 : Is Try.prog 33 a_eqNode := Is.mk' n_eqNode Try.func33 (by kernel_rfl) (by kernel_rfl)
noncomputable def G18 : Gam := G17.addX 33 c_eqNode
theorem gs18 : GS Try.prog G18 := GS.addX gs17 (s_eqNode mixed gs17 is33)
theorem is20 : Is Try.prog 20 (a_eqNodeS 33) := Is.mk' n_eqNodeS Try.func20 (by kernel_rfl) (by kernel_rfl)
noncomputable def G19 : Gam := G18.addX 20 c_eqNodeS
theorem gs19 : GS Try.prog G19 := GS.addX gs18 (s_eqNodeS mixed gs18 is20 rfl)
theorem is7 : Is Try.prog 7 (a_eqTree 20) := Is.mk' n_eqTree Try.func7 (by kernel_rfl) (by kernel_rfl)
noncomputable def G20 : Gam := G19.addX 7 c_eqTree
theorem gs20 : GS Try.prog G20 := GS.addX gs19 (s_eqTree mixed gs19 is7 rfl)
theorem is21 : Is Try.prog 21 a_markNodeS := Is.mk' n_markNodeS Try.func21 (by kernel_rfl) (by kernel_rfl)
noncomputable def G21 : Gam := G20.addX 21 c_markNodeS
theorem gs21 : GS Try.prog G21 := GS.addX gs20 (s_markNodeS mixed gs20 is21)
theorem is8 : Is Try.prog 8 (a_markTree 21) := Is.mk' n_markTree Try.func8 (by kernel_rfl) (by kernel_rfl)
noncomputable def G22 : Gam := G21.addX 8 c_markTree
theorem gs22 : GS Try.prog G22 := GS.addX gs21 (s_markTree mixed gs21 is8 rfl)
theorem is22 : Is Try.prog 22 a_heldNodeS := Is.mk' n_heldNodeS Try.func22 (by kernel_rfl) (by kernel_rfl)
noncomputable def G23 : Gam := G22.addX 22 c_heldNodeS
theorem gs23 : GS Try.prog G23 := GS.addX gs22 (s_heldNodeS mixed gs22 is22)
theorem is9 : Is Try.prog 9 (a_heldTree 22) := Is.mk' n_heldTree Try.func9 (by kernel_rfl) (by kernel_rfl)
noncomputable def G24 : Gam := G23.addX 9 c_heldTree
theorem gs24 : GS Try.prog G24 := GS.addX gs23 (s_heldTree mixed gs23 is9 rfl)
theorem is4 : Is Try.prog 4 (a_x_HalvingTree 10 11 7 8 9) := Is.mk' n_x_HalvingTree Try.func4 (by kernel_rfl) (by kernel_rfl)
theorem law : Says Try.prog 4 c_x_HalvingTree := s_x_HalvingTree mixed gs24 is4 rfl rfl rfl rfl rfl
theorem own : ownKnob Try.prog.godebug = none := by kernel_rfl
theorem laidOut : laidOutB Try.prog = true := by kernel_rfl
set_option maxRecDepth 100000 in
theorem lifted (os : Os) (started : os.Started) (H : Type) (enc : TypeId × Value → H) :
    ReturnsInHanded {} Try.checked os 4 .any (Rows.fnExactHalvingTreeSpec.pre6 enc Try.prog Try.f4 Rows.fnExactHalvingTreeRow.domain false) (Rows.fnExactHalvingTreeSpec.post enc Try.prog Try.f4 false true false false) := by
  refine returnsInHanded_of_change (C := Try.checked) own started (by kernel_rfl) Try.func4
    (ChangeSpec.witness6 (enc := enc) (C := Try.checked) false ⟨#[], #[.int .i64 0], []⟩ 8 (by kernel_rfl) (by kernel_rfl) (by kernel_rfl) (by kernel_rfl)) ?_
  intro W base args ds gs before hval0 hW _ _
  have hval : ∀ (j : Nat) t v, Try.f4.params[j]? = some t → args[j]? = some v → Value.okWide Try.prog W .any base t v := hval0
  obtain ⟨p, q, hA0, hV, _, _, _⟩ := id hW
  have hA : DataW.TrodAll enc Try.prog W 0 (fun _ => true) true Try.f4.params.toList args.toList ds p := hA0
  rw [Try.params4] at hA hval
  obtain ⟨v0, d0, rfl, rfl, h0⟩ := trodAll_one hA
  obtain ⟨n0, rg0, hp0⟩ := open_int' Try.underlying3 (hval 0 3 v0 rfl rfl)
  have hcon : c_x_HalvingTree ([.int .i64 n0].map .p) [] = some (.p (.bool true), [], []) := by simp [c_x_HalvingTree, pure']
  refine (calls_true (args := [.int .i64 n0]) (law _ _ _ _ _ hcon) rfl fun i hi => ?_).mono fun e W' ⟨he, hb⟩ => ⟨_, he, post_true hW rfl (fun l hl => ?_) laidOut (by kernel_rfl) (by kernel_rfl) Try.underlying4 hb⟩
  · match i, hi with
    | 0, _ => exact hp0
  · rw [Try.params4] at hl
    match l, hl with
    | [_], _ => rfl

theorem fnExactHalvingTree_holds : Rows.FnExactHalvingTreeSaid :=
  OpenClaim.holds_of_wide 4 Try.f4 rfl rfl rfl rfl rfl rfl rfl ⟨rfl, rfl, rfl, rfl, rfl⟩ rfl rfl rfl rfl rfl (by kernel_rfl) Try.func4 (by kernel_rfl)
    (of_decide_eq_true (by kernel_rfl)) (by unfold Func.isWrapper; rw [if_neg (by decide +kernel)]; exact ⟨rfl, rfl⟩)
    (fun os started H enc _ => lifted os started H enc)
#print axioms fnExactHalvingTree_holds
end Go.Proofs.Ytnjdlhinekfghaa
