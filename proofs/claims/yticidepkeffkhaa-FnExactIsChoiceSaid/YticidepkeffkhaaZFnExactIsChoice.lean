/- FOR EVERY INPUT THE LAW 'FnExactIsChoice' RETURNS TRUE, AND THE INPUT READS AS IT DID. No condition beyond the row's own. -/
import Derived.Test.YticidepkeffkhaaChecked
import Derived.Test.YticidepkeffkhaaRows
import Derived.Test.YticidepkeffkhaaLA
import Derived.Test.YticidepkeffkhaaLB
import Derived.Test.YticidepkeffkhaaLC
import Derived.Test.YticidepkeffkhaaLI
set_option linter.unusedVariables false
set_option linter.unusedSimpArgs false
namespace Go.Proofs.Yticidepkeffkhaa
open Go Go.Proofs Go.Proofs.Yticidepkeffkhaa.Pam Go.ChangeShapes Go.WideShapes Go.ChangeAt Go.RowKit Go.Joins
theorem mixed : Try.prog.follows .mixedOrders = true := by kernel_rfl
def G0 : Gam := Gam.none
theorem gs0 : GS Try.prog G0 := GS.none
theorem is32 : Is Try.prog 32 a_szIntS := Is.mk' n_szIntS Try.func32 (by kernel_rfl) (by kernel_rfl)
def G1 : Gam := G0.addX 32 c_szIntS
theorem gs1 : GS Try.prog G1 := GS.addX gs0 (s_szIntS mixed gs0 is32)
theorem is8 : Is Try.prog 8 (a_szState 32) := Is.mk' n_szState Try.func8 (by kernel_rfl) (by kernel_rfl)
def G2 : Gam := G1.addX 8 c_szState
theorem gs2 : GS Try.prog G2 := GS.addX gs1 (s_szState mixed gs1 is8 rfl)
theorem is11 : Is Try.prog 11 a_toIntS := Is.mk' n_toIntS Try.func11 (by kernel_rfl) (by kernel_rfl)
def G3 : Gam := G2.addX 11 c_toIntS
theorem gs3 : GS Try.prog G3 := GS.addX gs2 (s_toIntS mixed gs2 is11)
theorem is10 : Is Try.prog 10 (a_toState 11) := Is.mk' n_toState Try.func10 (by kernel_rfl) (by kernel_rfl)
def G4 : Gam := G3.addX 10 c_toState
theorem gs4 : GS Try.prog G4 := GS.addX gs3 (s_toState mixed gs3 is10 rfl)
theorem is47 : Is Try.prog 47 a_l1In := Is.mk' n_l1In Try.func47 (by kernel_rfl) (by kernel_rfl)
def G5 : Gam := G4.addX 47 c_in
theorem gs5 : GS Try.prog G5 := GS.addX gs4 (s_l1In mixed gs4 is47)
theorem is33 : Is Try.prog 33 (a_l2State 47) := Is.mk' n_l2State Try.func33 (by kernel_rfl) (by kernel_rfl)
def G6 : Gam := G5.addX 33 c_IsState
theorem gs6 : GS Try.prog G6 := GS.addX gs5 (s_l2State mixed gs5 is33 rfl)
theorem is71 : Is Try.prog 71 (a_l2Numbers 47) := Is.mk' n_l2Numbers Try.func71 (by kernel_rfl) (by kernel_rfl)
def G7 : Gam := G6.addX 71 c_isCount
theorem gs7 : GS Try.prog G7 := GS.addX gs6 (s_l2Numbers mixed gs6 is71 rfl)
theorem is60 : Is Try.prog 60 (a_l2Asks 71 47) := Is.mk' n_l2Asks Try.func60 (by kernel_rfl) (by kernel_rfl)
def G8 : Gam := G7.addX 60 c_isQuestion
theorem gs8 : GS Try.prog G8 := GS.addX gs7 (s_l2Asks mixed gs7 is60 rfl rfl)
theorem is37 : Is Try.prog 37 (a_l2Question 60) := Is.mk' n_l2Question Try.func37 (by kernel_rfl) (by kernel_rfl)
def G9 : Gam := G8.addX 37 c_l2Question
theorem gs9 : GS Try.prog G9 := GS.addX gs8 (s_l2Question mixed gs8 is37 rfl)
theorem is34 : Is Try.prog 34 (a_l11Choice 37 47) := Is.mk' n_l11Choice Try.func34 (by kernel_rfl) (by kernel_rfl)
def G10 : Gam := G9.addX 34 c_l11Choice
theorem gs10 : GS Try.prog G10 := GS.addX gs9 (s_l11Choice mixed gs9 is34 rfl rfl)
theorem is9 : Is Try.prog 9 (a_s_IsChoice 33 34) := Is.mk' n_s_IsChoice Try.func9 (by kernel_rfl) (by kernel_rfl)
def G11 : Gam := G10.addX 9 c_IsChoice
theorem gs11 : GS Try.prog G11 := GS.addX gs10 (s_s_IsChoice mixed gs10 is9 rfl rfl)
theorem is59 : Is Try.prog 59 a_in := Is.mk' n_in Try.func59 (by kernel_rfl) (by kernel_rfl)
def G12 : Gam := G11.addX 59 c_in
theorem gs12 : GS Try.prog G12 := GS.addX gs11 (s_in mixed gs11 is59)
theorem is56 : Is Try.prog 56 (a_isCount 59) := Is.mk' n_isCount Try.func56 (by kernel_rfl) (by kernel_rfl)
def G13 : Gam := G12.addX 56 c_isCount
theorem gs13 : GS Try.prog G13 := GS.addX gs12 (s_isCount mixed gs12 is56 rfl)
theorem is54 : Is Try.prog 54 (a_isMost 59) := Is.mk' n_isMost Try.func54 (by kernel_rfl) (by kernel_rfl)
def G14 : Gam := G13.addX 54 c_isMost
theorem gs14 : GS Try.prog G14 := GS.addX gs13 (s_isMost mixed gs13 is54 rfl)
theorem is58 : Is Try.prog 58 (a_IsState1 59) := Is.mk' n_IsState1 Try.func58 (by kernel_rfl) (by kernel_rfl)
def G15 : Gam := G14.addX 58 c_IsState1
theorem gs15 : GS Try.prog G15 := GS.addX gs14 (s_IsState1 mixed gs14 is58 rfl)
theorem is75 : Is Try.prog 75 a_IndexFunc := Is.mk' n_IndexFunc Try.func75 (by kernel_rfl) (by kernel_rfl)
def G16 : Gam := G15.addX 75 (c_IndexFunc G15)
theorem gs16 : GS Try.prog G16 := GS.addX gs15 (s_IndexFunc mixed gs15 is75)
theorem is57 : Is Try.prog 57 (a_ContainsFunc 75) := Is.mk' n_ContainsFunc Try.func57 (by kernel_rfl) (by kernel_rfl)
def G17 : Gam := G16.addX 57 (c_ContainsFunc G15)
theorem gs17 : GS Try.prog G17 := GS.addX gs16 (s_ContainsFunc (Γ0 := G15) mixed gs16 is57 rfl)
theorem is35 : Is Try.prog 35 (a_IsState 56 54 58 57) := Is.mk' n_IsState Try.func35 (by kernel_rfl) (by kernel_rfl)
def G18 : Gam := G17.addX 35 c_IsState
theorem gs18 : GS Try.prog G18 := GS.addX gs17 (s_IsState (Γ0 := G15) mixed gs17 is35 rfl rfl rfl rfl)
theorem is39 : Is Try.prog 39 (a_isQuestion 56 59) := Is.mk' n_isQuestion Try.func39 (by kernel_rfl) (by kernel_rfl)
def G19 : Gam := G18.addX 39 c_isQuestion
theorem gs19 : GS Try.prog G19 := GS.addX gs18 (s_isQuestion mixed gs18 is39 rfl rfl)
theorem is36 : Is Try.prog 36 (a_areChoices 39 59) := Is.mk' n_areChoices Try.func36 (by kernel_rfl) (by kernel_rfl)
def G20 : Gam := G19.addX 36 c_areChoices
theorem gs20 : GS Try.prog G20 := GS.addX gs19 (s_areChoices mixed gs19 is36 rfl rfl)
theorem is12 : Is Try.prog 12 (a_IsChoice 35 36) := Is.mk' n_IsChoice Try.func12 (by kernel_rfl) (by kernel_rfl)
def G21 : Gam := G20.addX 12 c_IsChoice
theorem gs21 : GS Try.prog G21 := GS.addX gs20 (s_IsChoice mixed gs20 is12 rfl rfl)
theorem is14 : Is Try.prog 14 a_eqIntS := Is.mk' n_eqIntS Try.func14 (by kernel_rfl) (by kernel_rfl)
def G22 : Gam := G21.addX 14 c_eqIntS
theorem gs22 : GS Try.prog G22 := GS.addX gs21 (s_eqIntS mixed gs21 is14)
theorem is13 : Is Try.prog 13 (a_eqState 14) := Is.mk' n_eqState Try.func13 (by kernel_rfl) (by kernel_rfl)
def G23 : Gam := G22.addX 13 c_eqState
theorem gs23 : GS Try.prog G23 := GS.addX gs22 (s_eqState mixed gs22 is13 rfl)
theorem is3 : Is Try.prog 3 (a_x_IsChoice 8 10 11 9 12 13 14) := Is.mk' n_x_IsChoice Try.func3 (by kernel_rfl) (by kernel_rfl)
theorem law : Says Try.prog 3 c_x_IsChoice := s_x_IsChoice mixed gs23 is3 rfl rfl rfl rfl rfl rfl rfl
theorem own : ownKnob Try.prog.godebug = none := by kernel_rfl
theorem laidOut : laidOutB Try.prog = true := by kernel_rfl
set_option maxRecDepth 100000 in
theorem lifted (os : Os) (started : os.Started) (H : Type) (enc : TypeId × Value → H) :
    ReturnsInHanded {} Try.checked os 3 .any (Rows.fnExactIsChoiceSpec.pre6 enc Try.prog Try.f3 Rows.fnExactIsChoiceRow.domain false) (Rows.fnExactIsChoiceSpec.post enc Try.prog Try.f3 false true false false) := by
  refine returnsInHanded_of_change (C := Try.checked) own started (by kernel_rfl) Try.func3
    (ChangeSpec.witness6 (enc := enc) (C := Try.checked) false ⟨#[], #[.agg #[.slice none 0 0, .int .i64 0], .slice none 0 0], []⟩ 8 (by kernel_rfl) (by kernel_rfl) (by kernel_rfl) (by kernel_rfl)) ?_
  intro W base args ds gs before hval0 hW _ _
  have hval : ∀ (j : Nat) t v, Try.f3.params[j]? = some t → args[j]? = some v → Value.okWide Try.prog W .any base t v := hval0
  obtain ⟨p, q, hA0, hV, _, _, _⟩ := id hW
  have hA : DataW.TrodAll enc Try.prog W 0 (fun _ => true) true Try.f3.params.toList args.toList ds p := hA0
  rw [Try.params3] at hA hval
  obtain ⟨v0, v1, d0, d1, p0, p1, rfl, rfl, rfl, h0, h1⟩ := trodAll_two hA
  obtain ⟨pv0, l0, m0, sl0, le0, hp0⟩ := open_state' Try.underlying24 (by kernel_rfl) (by kernel_rfl) (by kernel_rfl) Try.underlying22 Try.underlying3 (by kernel_rfl) Try.underlying3 (hval 0 24 v0 rfl rfl) h0
  obtain ⟨pv1, l1, sl1, le1, hp1⟩ := open_intsV Try.underlying22 Try.underlying3 (by kernel_rfl) (hval 1 22 v1 rfl rfl) h1
  have hcon : c_x_IsChoice ([.agg [pv0, .int .i64 m0], pv1].map .p) [] = some (.p (.bool true), [], []) := by simp [c_x_IsChoice, pure', sl0, le0, sl1, le1]
  refine (calls_true (args := [.agg [pv0, .int .i64 m0], pv1]) (law _ _ _ _ _ hcon) rfl fun i hi => ?_).mono fun e W' ⟨he, hb⟩ => ⟨_, he, post_true hW rfl (fun l hl => ?_) laidOut (by kernel_rfl) (by kernel_rfl) Try.underlying4 hb⟩
  · match i, hi with
    | 0, _ => exact hp0
    | 1, _ => exact hp1
  · rw [Try.params3] at hl
    match l, hl with
    | [_, _], _ => rfl

theorem fnExactIsChoice_holds : Rows.FnExactIsChoiceSaid :=
  OpenClaim.holds_of_wide 3 Try.f3 rfl rfl rfl rfl rfl rfl rfl ⟨rfl, rfl, rfl, rfl, rfl⟩ rfl rfl rfl rfl rfl (by kernel_rfl) Try.func3 (by kernel_rfl)
    (of_decide_eq_true (by kernel_rfl)) (by unfold Func.isWrapper; rw [if_neg (by decide +kernel)]; exact ⟨rfl, rfl⟩)
    (fun os started H enc _ => lifted os started H enc)
#print axioms fnExactIsChoice_holds
end Go.Proofs.Yticidepkeffkhaa
