/- FOR EVERY INPUT THE LAW 'FnExactChoicesAt' RETURNS TRUE, AND THE INPUT READS AS IT DID. No condition beyond the row's own. -/
import Derived.Test.YticidepkeffkhaaChecked
import Derived.Test.YticidepkeffkhaaRows
import Derived.Test.YticidepkeffkhaaGbMB
set_option linter.unusedVariables false
set_option linter.unusedSimpArgs false
namespace Go.Proofs.Yticidepkeffkhaa
open Go Go.Proofs Go.Proofs.Yticidepkeffkhaa.Pam Go.ChangeShapes Go.WideShapes Go.ChangeAt Go.RowKit Go.Joins
theorem mixed : Try.prog.follows .mixedOrders = true := by kernel_rfl
def G0 : Gam := Gam.none
theorem gs0 : GS Try.prog G0 := GS.none
theorem is32 : Is Try.prog 32 a_szIntS := Is.mk' n_szIntS Try.func32 (by kernel_rfl) (by kernel_rfl)
def G1 : Gam := G0.addX 32 c_szIntS
theorem gs1 : GS Try.prog G1 := GS.addX gs0 (s_szIntS mixed gs0 is32)
theorem is8 : Is Try.prog 8 (a_szState 32) := Is.mk' n_szState Try.func8 (by kernel_rfl) (by kernel_rfl)
def G2 : Gam := G1.addX 8 c_szState
theorem gs2 : GS Try.prog G2 := GS.addX gs1 (s_szState mixed gs1 is8 rfl)
theorem is11 : Is Try.prog 11 a_toIntS := Is.mk' n_toIntS Try.func11 (by kernel_rfl) (by kernel_rfl)
def G3 : Gam := G2.addX 11 c_toIntS
theorem gs3 : GS Try.prog G3 := GS.addX gs2 (s_toIntS mixed gs2 is11)
theorem is10 : Is Try.prog 10 (a_toState 11) := Is.mk' n_toState Try.func10 (by kernel_rfl) (by kernel_rfl)
def G4 : Gam := G3.addX 10 c_toState
theorem gs4 : GS Try.prog G4 := GS.addX gs3 (s_toState mixed gs3 is10 rfl)
theorem is47 : Is Try.prog 47 a_l1In := Is.mk' n_l1In Try.func47 (by kernel_rfl) (by kernel_rfl)
def G5 : Gam := G4.addX 47 c_in
theorem gs5 : GS Try.prog G5 := GS.addX gs4 (s_l1In mixed gs4 is47)
theorem is33 : Is Try.prog 33 (a_l2State 47) := Is.mk' n_l2State Try.func33 (by kernel_rfl) (by kernel_rfl)
def G6 : Gam := G5.addX 33 c_IsState
theorem gs6 : GS Try.prog G6 := GS.addX gs5 (s_l2State mixed gs5 is33 rfl)
theorem is79 : Is Try.prog 79 (a_l6Short 33) := Is.mk' n_l6Short Try.func79 (by kernel_rfl) (by kernel_rfl)
def G7 : Gam := G6.addX 79 c_isShort
theorem gs7 : GS Try.prog G7 := GS.addX gs6 (s_l6Short mixed gs6 is79 rfl)
theorem is81 : Is Try.prog 81 a_l2Open := Is.mk' n_l2Open Try.func81 (by kernel_rfl) (by kernel_rfl)
def G8 : Gam := G7.addX 81 c_l2Open
theorem gs8 : GS Try.prog G8 := GS.addX gs7 (s_l2Open mixed gs7 is81)
theorem is80 : Is Try.prog 80 (a_l6Done 81) := Is.mk' n_l6Done Try.func80 (by kernel_rfl) (by kernel_rfl)
def G9 : Gam := G8.addX 80 c_l6Done
theorem gs9 : GS Try.prog G9 := GS.addX gs8 (s_l6Done mixed gs8 is80 rfl)
theorem is67 : Is Try.prog 67 (a_l11Race 79 80) := Is.mk' n_l11Race Try.func67 (by kernel_rfl) (by kernel_rfl)
def G10 : Gam := G9.addX 67 c_isRace
theorem gs10 : GS Try.prog G10 := GS.addX gs9 (s_l11Race mixed gs9 is67 rfl rfl)
theorem is71 : Is Try.prog 71 (a_l2Numbers 47) := Is.mk' n_l2Numbers Try.func71 (by kernel_rfl) (by kernel_rfl)
def G11 : Gam := G10.addX 71 c_isCount
theorem gs11 : GS Try.prog G11 := GS.addX gs10 (s_l2Numbers mixed gs10 is71 rfl)
theorem is60 : Is Try.prog 60 (a_l2Asks 71 47) := Is.mk' n_l2Asks Try.func60 (by kernel_rfl) (by kernel_rfl)
def G12 : Gam := G11.addX 60 c_isQuestion
theorem gs12 : GS Try.prog G12 := GS.addX gs11 (s_l2Asks mixed gs11 is60 rfl rfl)
theorem is37 : Is Try.prog 37 (a_l2Question 60) := Is.mk' n_l2Question Try.func37 (by kernel_rfl) (by kernel_rfl)
def G13 : Gam := G12.addX 37 c_l2Question
theorem gs13 : GS Try.prog G13 := GS.addX gs12 (s_l2Question mixed gs12 is37 rfl)
theorem is34 : Is Try.prog 34 (a_l11Choice 37 47) := Is.mk' n_l11Choice Try.func34 (by kernel_rfl) (by kernel_rfl)
def G14 : Gam := G13.addX 34 c_l11Choice
theorem gs14 : GS Try.prog G14 := GS.addX gs13 (s_l11Choice mixed gs13 is34 rfl rfl)
theorem is41 : Is Try.prog 41 (a_l11Good 67 34) := Is.mk' n_l11Good Try.func41 (by kernel_rfl) (by kernel_rfl)
def G15 : Gam := G14.addX 41 c_areRaced
theorem gs15 : GS Try.prog G15 := GS.addX gs14 (s_l11Good mixed gs14 is41 rfl rfl)
theorem is68 : Is Try.prog 68 (a_l2Vain 81) := Is.mk' n_l2Vain Try.func68 (by kernel_rfl) (by kernel_rfl)
def G16 : Gam := G15.addX 68 c_isVain
theorem gs16 : GS Try.prog G16 := GS.addX gs15 (s_l2Vain mixed gs15 is68 rfl)
theorem is42 : Is Try.prog 42 (a_l11Choices 68) := Is.mk' n_l11Choices Try.func42 (by kernel_rfl) (by kernel_rfl)
def G17 : Gam := G16.addX 42 c_l11Choices
theorem gs17 : GS Try.prog G17 := GS.addX gs16 (s_l11Choices mixed gs16 is42 rfl)
theorem is20 : Is Try.prog 20 (a_s_ChoicesAt 41 42) := Is.mk' n_s_ChoicesAt Try.func20 (by kernel_rfl) (by kernel_rfl)
def G18 : Gam := G17.addX 20 c_s_ChoicesAt
theorem gs18 : GS Try.prog G18 := GS.addX gs17 (s_s_ChoicesAt mixed gs17 is20 rfl rfl)
theorem is59 : Is Try.prog 59 a_in := Is.mk' n_in Try.func59 (by kernel_rfl) (by kernel_rfl)
def G19 : Gam := G18.addX 59 c_in
theorem gs19 : GS Try.prog G19 := GS.addX gs18 (s_in mixed gs18 is59)
theorem is56 : Is Try.prog 56 (a_isCount 59) := Is.mk' n_isCount Try.func56 (by kernel_rfl) (by kernel_rfl)
def G20 : Gam := G19.addX 56 c_isCount
theorem gs20 : GS Try.prog G20 := GS.addX gs19 (s_isCount mixed gs19 is56 rfl)
theorem is54 : Is Try.prog 54 (a_isMost 59) := Is.mk' n_isMost Try.func54 (by kernel_rfl) (by kernel_rfl)
def G21 : Gam := G20.addX 54 c_isMost
theorem gs21 : GS Try.prog G21 := GS.addX gs20 (s_isMost mixed gs20 is54 rfl)
theorem is58 : Is Try.prog 58 (a_IsState1 59) := Is.mk' n_IsState1 Try.func58 (by kernel_rfl) (by kernel_rfl)
def G22 : Gam := G21.addX 58 c_IsState1
theorem gs22 : GS Try.prog G22 := GS.addX gs21 (s_IsState1 mixed gs21 is58 rfl)
theorem is75 : Is Try.prog 75 a_IndexFunc := Is.mk' n_IndexFunc Try.func75 (by kernel_rfl) (by kernel_rfl)
def G23 : Gam := G22.addX 75 (c_IndexFunc G22)
theorem gs23 : GS Try.prog G23 := GS.addX gs22 (s_IndexFunc mixed gs22 is75)
theorem is57 : Is Try.prog 57 (a_ContainsFunc 75) := Is.mk' n_ContainsFunc Try.func57 (by kernel_rfl) (by kernel_rfl)
def G24 : Gam := G23.addX 57 (c_ContainsFunc G22)
theorem gs24 : GS Try.prog G24 := GS.addX gs23 (s_ContainsFunc (Γ0 := G22) mixed gs23 is57 rfl)
theorem is35 : Is Try.prog 35 (a_IsState 56 54 58 57) := Is.mk' n_IsState Try.func35 (by kernel_rfl) (by kernel_rfl)
def G25 : Gam := G24.addX 35 c_IsState
theorem gs25 : GS Try.prog G25 := GS.addX gs24 (s_IsState (Γ0 := G22) mixed gs24 is35 rfl rfl rfl rfl)
theorem is82 : Is Try.prog 82 (a_isShort 35) := Is.mk' n_isShort Try.func82 (by kernel_rfl) (by kernel_rfl)
def G26 : Gam := G25.addX 82 c_isShort
theorem gs26 : GS Try.prog G26 := GS.addX gs25 (s_isShort mixed gs25 is82 rfl)
theorem is83 : Is Try.prog 83 a_opened := Is.mk' n_opened Try.func83 (by kernel_rfl) (by kernel_rfl)
def G27 : Gam := G26.addX 83 c_l2Open
theorem gs27 : GS Try.prog G27 := GS.addX gs26 (s_opened mixed gs26 is83)
theorem is69 : Is Try.prog 69 (a_isRace 82 83) := Is.mk' n_isRace Try.func69 (by kernel_rfl) (by kernel_rfl)
def G28 : Gam := G27.addX 69 c_isRace
theorem gs28 : GS Try.prog G28 := GS.addX gs27 (s_isRace mixed gs27 is69 rfl rfl)
theorem is39 : Is Try.prog 39 (a_isQuestion 56 59) := Is.mk' n_isQuestion Try.func39 (by kernel_rfl) (by kernel_rfl)
def G29 : Gam := G28.addX 39 c_isQuestion
theorem gs29 : GS Try.prog G29 := GS.addX gs28 (s_isQuestion mixed gs28 is39 rfl rfl)
theorem is36 : Is Try.prog 36 (a_areChoices 39 59) := Is.mk' n_areChoices Try.func36 (by kernel_rfl) (by kernel_rfl)
def G30 : Gam := G29.addX 36 c_areChoices
theorem gs30 : GS Try.prog G30 := GS.addX gs29 (s_areChoices mixed gs29 is36 rfl rfl)
theorem is43 : Is Try.prog 43 (a_areRaced 69 36) := Is.mk' n_areRaced Try.func43 (by kernel_rfl) (by kernel_rfl)
def G31 : Gam := G30.addX 43 c_areRaced
theorem gs31 : GS Try.prog G31 := GS.addX gs30 (s_areRaced mixed gs30 is43 rfl rfl)
theorem is44 : Is Try.prog 44 a_newRace := Is.mk' n_newRace Try.func44 (by kernel_rfl) (by kernel_rfl)
def G32 : Gam := G31.addX 44 c_newRace
theorem gs32 : GS Try.prog G32 := GS.addX gs31 (s_newRace mixed gs31 is44)
theorem is66 : Is Try.prog 66 a_has := Is.mk' n_has Try.func66 (by kernel_rfl) (by kernel_rfl)
def G33 : Gam := G32.addX 66 c_has
theorem gs33 : GS Try.prog G33 := GS.addX gs32 (s_has mixed gs32 is66)
theorem is70 : Is Try.prog 70 (a_isVain 83 66) := Is.mk' n_isVain Try.func70 (by kernel_rfl) (by kernel_rfl)
def G34 : Gam := G33.addX 70 c_isVain
theorem gs34 : GS Try.prog G34 := GS.addX gs33 (s_isVain mixed gs33 is70 rfl rfl)
theorem is45 : Is Try.prog 45 (a_choices 70) := Is.mk' n_choices Try.func45 (by kernel_rfl) (by kernel_rfl)
def G35 : Gam := G34.addX 45 c_choices
theorem gs35 : GS Try.prog G35 := GS.addX gs34 (s_choices mixed gs34 is45 rfl)
theorem is21 : Is Try.prog 21 (a_ChoicesAt 43 44 45) := Is.mk' n_ChoicesAt Try.func21 (by kernel_rfl) (by kernel_rfl)
def G36 : Gam := G35.addX 21 c_ChoicesAt
theorem gs36 : GS Try.prog G36 := GS.addX gs35 (s_ChoicesAt mixed gs35 is21 rfl rfl rfl)
theorem is14 : Is Try.prog 14 a_eqIntS := Is.mk' n_eqIntS Try.func14 (by kernel_rfl) (by kernel_rfl)
def G37 : Gam := G36.addX 14 c_eqIntS
theorem gs37 : GS Try.prog G37 := GS.addX gs36 (s_eqIntS mixed gs36 is14)
theorem is13 : Is Try.prog 13 (a_eqState 14) := Is.mk' n_eqState Try.func13 (by kernel_rfl) (by kernel_rfl)
def G38 : Gam := G37.addX 13 c_eqState
theorem gs38 : GS Try.prog G38 := GS.addX gs37 (s_eqState mixed gs37 is13 rfl)
theorem is22 : Is Try.prog 22 a_markIntS := Is.mk' n_markIntS Try.func22 (by kernel_rfl) (by kernel_rfl)
def G39 : Gam := G38.addX 22 c_markIntS
theorem gs39 : GS Try.prog G39 := GS.addX gs38 (s_markIntS mixed gs38 is22)
theorem is18 : Is Try.prog 18 (a_markState 22) := Is.mk' n_markState Try.func18 (by kernel_rfl) (by kernel_rfl)
def G40 : Gam := G39.addX 18 c_markState
theorem gs40 : GS Try.prog G40 := GS.addX gs39 (s_markState mixed gs39 is18 rfl)
theorem is23 : Is Try.prog 23 a_heldIntS := Is.mk' n_heldIntS Try.func23 (by kernel_rfl) (by kernel_rfl)
def G41 : Gam := G40.addX 23 c_heldIntS
theorem gs41 : GS Try.prog G41 := GS.addX gs40 (s_heldIntS mixed gs40 is23)
theorem is5 : Is Try.prog 5 (a_x_ChoicesAt 8 10 11 20 21 14 13 18 22 23) := Is.mk' n_x_ChoicesAt Try.func5 (by kernel_rfl) (by kernel_rfl)
theorem law : Says Try.prog 5 c_x_ChoicesAt := s_x_ChoicesAt mixed gs41 is5 rfl rfl rfl rfl rfl rfl rfl rfl rfl rfl
theorem own : ownKnob Try.prog.godebug = none := by kernel_rfl
theorem laidOut : laidOutB Try.prog = true := by kernel_rfl
set_option maxRecDepth 100000 in
theorem lifted (os : Os) (started : os.Started) (H : Type) (enc : TypeId × Value → H) :
    ReturnsInHanded {} Try.checked os 5 .any (Rows.fnExactChoicesAtSpec.pre6 enc Try.prog Try.f5 Rows.fnExactChoicesAtRow.domain false) (Rows.fnExactChoicesAtSpec.post enc Try.prog Try.f5 false true false false) := by
  refine returnsInHanded_of_change (C := Try.checked) own started (by kernel_rfl) Try.func5
    (ChangeSpec.witness6 (enc := enc) (C := Try.checked) false ⟨#[], #[.agg #[.slice none 0 0, .int .i64 0], .slice none 0 0], []⟩ 8 (by kernel_rfl) (by kernel_rfl) (by kernel_rfl) (by kernel_rfl)) ?_
  intro W base args ds gs before hval0 hW _ _
  have hval : ∀ (j : Nat) t v, Try.f5.params[j]? = some t → args[j]? = some v → Value.okWide Try.prog W .any base t v := hval0
  obtain ⟨p, q, hA0, hV, _, _, _⟩ := id hW
  have hA : DataW.TrodAll enc Try.prog W 0 (fun _ => true) true Try.f5.params.toList args.toList ds p := hA0
  rw [Try.params5] at hA hval
  obtain ⟨v0, v1, d0, d1, p0, p1, rfl, rfl, rfl, h0, h1⟩ := trodAll_two hA
  obtain ⟨pv0, l0, m0, sl0, le0, hp0⟩ := open_state' Try.underlying24 (by kernel_rfl) (by kernel_rfl) (by kernel_rfl) Try.underlying22 Try.underlying3 (by kernel_rfl) Try.underlying3 (hval 0 24 v0 rfl rfl) h0
  obtain ⟨pv1, l1, sl1, le1, hp1⟩ := open_intsV Try.underlying22 Try.underlying3 (by kernel_rfl) (hval 1 22 v1 rfl rfl) h1
  have hcon : c_x_ChoicesAt ([.agg [pv0, .int .i64 m0], pv1].map .p) [] = some (.p (.bool true), [], []) := by simp [c_x_ChoicesAt, pure', sl0, le0, sl1, le1]
  refine (calls_true (args := [.agg [pv0, .int .i64 m0], pv1]) (law _ _ _ _ _ hcon) rfl fun i hi => ?_).mono fun e W' ⟨he, hb⟩ => ⟨_, he, post_true hW rfl (fun l hl => ?_) laidOut (by kernel_rfl) (by kernel_rfl) Try.underlying4 hb⟩
  · match i, hi with
    | 0, _ => exact hp0
    | 1, _ => exact hp1
  · rw [Try.params5] at hl
    match l, hl with
    | [_, _], _ => rfl

theorem fnExactChoicesAt_holds : Rows.FnExactChoicesAtSaid :=
  OpenClaim.holds_of_wide 5 Try.f5 rfl rfl rfl rfl rfl rfl rfl ⟨rfl, rfl, rfl, rfl, rfl⟩ rfl rfl rfl rfl rfl (by kernel_rfl) Try.func5 (by kernel_rfl)
    (of_decide_eq_true (by kernel_rfl)) (by unfold Func.isWrapper; rw [if_neg (by decide +kernel)]; exact ⟨rfl, rfl⟩)
    (fun os started H enc _ => lifted os started H enc)
#print axioms fnExactChoicesAt_holds
end Go.Proofs.Yticidepkeffkhaa
