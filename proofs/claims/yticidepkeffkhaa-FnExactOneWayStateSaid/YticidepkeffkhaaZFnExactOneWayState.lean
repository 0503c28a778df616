/- FOR EVERY INPUT THE LAW 'FnExactOneWayState' RETURNS TRUE, AND THE INPUT READS AS IT DID. No condition beyond the row's own. -/
import Derived.Test.YticidepkeffkhaaChecked
import Derived.Test.YticidepkeffkhaaRows
import Derived.Test.YticidepkeffkhaaLA
import Derived.Test.YticidepkeffkhaaLB
import Derived.Test.YticidepkeffkhaaLC
import Derived.Test.YticidepkeffkhaaLD
import Derived.Test.YticidepkeffkhaaLE
set_option linter.unusedVariables false
set_option linter.unusedSimpArgs false
namespace Go.Proofs.Yticidepkeffkhaa
open Go Go.Proofs Go.Proofs.Yticidepkeffkhaa.Pam Go.ChangeShapes Go.WideShapes Go.ChangeAt Go.RowKit Go.Joins
theorem mixed : Try.prog.follows .mixedOrders = true := by kernel_rfl
def G0 : Gam := Gam.none
theorem gs0 : GS Try.prog G0 := GS.none
theorem is32 : Is Try.prog 32 a_szIntS := Is.mk' n_szIntS Try.func32 (by kernel_rfl) (by kernel_rfl)
def G1 : Gam := G0.addX 32 c_szIntS
theorem gs1 : GS Try.prog G1 := GS.addX gs0 (s_szIntS mixed gs0 is32)
theorem is8 : Is Try.prog 8 (a_szState 32) := Is.mk' n_szState Try.func8 (by kernel_rfl) (by kernel_rfl)
def G2 : Gam := G1.addX 8 c_szState
theorem gs2 : GS Try.prog G2 := GS.addX gs1 (s_szState mixed gs1 is8 rfl)
theorem is11 : Is Try.prog 11 a_toIntS := Is.mk' n_toIntS Try.func11 (by kernel_rfl) (by kernel_rfl)
def G3 : Gam := G2.addX 11 c_toIntS
theorem gs3 : GS Try.prog G3 := GS.addX gs2 (s_toIntS mixed gs2 is11)
theorem is10 : Is Try.prog 10 (a_toState 11) := Is.mk' n_toState Try.func10 (by kernel_rfl) (by kernel_rfl)
def G4 : Gam := G3.addX 10 c_toState
theorem gs4 : GS Try.prog G4 := GS.addX gs3 (s_toState mixed gs3 is10 rfl)
theorem is16 : Is Try.prog 16 a_toAsked := Is.mk' n_toAsked Try.func16 (by kernel_rfl) (by kernel_rfl)
def G5 : Gam := G4.addX 16 c_toAsked
theorem gs5 : GS Try.prog G5 := GS.addX gs4 (s_toAsked mixed gs4 is16)
theorem is47 : Is Try.prog 47 a_l1In := Is.mk' n_l1In Try.func47 (by kernel_rfl) (by kernel_rfl)
def G6 : Gam := G5.addX 47 c_in
theorem gs6 : GS Try.prog G6 := GS.addX gs5 (s_l1In mixed gs5 is47)
theorem is33 : Is Try.prog 33 (a_l2State 47) := Is.mk' n_l2State Try.func33 (by kernel_rfl) (by kernel_rfl)
def G7 : Gam := G6.addX 33 c_IsState
theorem gs7 : GS Try.prog G7 := GS.addX gs6 (s_l2State mixed gs6 is33 rfl)
theorem is71 : Is Try.prog 71 (a_l2Numbers 47) := Is.mk' n_l2Numbers Try.func71 (by kernel_rfl) (by kernel_rfl)
def G8 : Gam := G7.addX 71 c_isCount
theorem gs8 : GS Try.prog G8 := GS.addX gs7 (s_l2Numbers mixed gs7 is71 rfl)
theorem is60 : Is Try.prog 60 (a_l2Asks 71 47) := Is.mk' n_l2Asks Try.func60 (by kernel_rfl) (by kernel_rfl)
def G9 : Gam := G8.addX 60 c_isQuestion
theorem gs9 : GS Try.prog G9 := GS.addX gs8 (s_l2Asks mixed gs8 is60 rfl rfl)
theorem is37 : Is Try.prog 37 (a_l2Question 60) := Is.mk' n_l2Question Try.func37 (by kernel_rfl) (by kernel_rfl)
def G10 : Gam := G9.addX 37 c_l2Question
theorem gs10 : GS Try.prog G10 := GS.addX gs9 (s_l2Question mixed gs9 is37 rfl)
theorem is62 : Is Try.prog 62 a_l1Own := Is.mk' n_l1Own Try.func62 (by kernel_rfl) (by kernel_rfl)
def G11 : Gam := G10.addX 62 c_Clone
theorem gs11 : GS Try.prog G11 := GS.addX gs10 (s_l1Own mixed gs10 is62)
theorem is76 : Is Try.prog 76 a_l2False := Is.mk' n_l2False Try.func76 (by kernel_rfl) (by kernel_rfl)
def G12 : Gam := G11.addX 76 c_l2False
theorem gs12 : GS Try.prog G12 := GS.addX gs11 (s_l2False mixed gs11 is76)
theorem is61 : Is Try.prog 61 (a_l2After 62 76) := Is.mk' n_l2After Try.func61 (by kernel_rfl) (by kernel_rfl)
def G13 : Gam := G12.addX 61 c_l2After
theorem gs13 : GS Try.prog G13 := GS.addX gs12 (s_l2After mixed gs12 is61 rfl rfl)
theorem is38 : Is Try.prog 38 (a_l10After 61 62) := Is.mk' n_l10After Try.func38 (by kernel_rfl) (by kernel_rfl)
def G14 : Gam := G13.addX 38 c_l10After
theorem gs14 : GS Try.prog G14 := GS.addX gs13 (s_l10After mixed gs13 is38 rfl rfl)
theorem is15 : Is Try.prog 15 (a_s_OneWayState 33 37 38) := Is.mk' n_s_OneWayState Try.func15 (by kernel_rfl) (by kernel_rfl)
def G15 : Gam := G14.addX 15 c_s_OneWayState
theorem gs15 : GS Try.prog G15 := GS.addX gs14 (s_s_OneWayState mixed gs14 is15 rfl rfl rfl)
theorem is59 : Is Try.prog 59 a_in := Is.mk' n_in Try.func59 (by kernel_rfl) (by kernel_rfl)
def G16 : Gam := G15.addX 59 c_in
theorem gs16 : GS Try.prog G16 := GS.addX gs15 (s_in mixed gs15 is59)
theorem is56 : Is Try.prog 56 (a_isCount 59) := Is.mk' n_isCount Try.func56 (by kernel_rfl) (by kernel_rfl)
def G17 : Gam := G16.addX 56 c_isCount
theorem gs17 : GS Try.prog G17 := GS.addX gs16 (s_isCount mixed gs16 is56 rfl)
theorem is54 : Is Try.prog 54 (a_isMost 59) := Is.mk' n_isMost Try.func54 (by kernel_rfl) (by kernel_rfl)
def G18 : Gam := G17.addX 54 c_isMost
theorem gs18 : GS Try.prog G18 := GS.addX gs17 (s_isMost mixed gs17 is54 rfl)
theorem is58 : Is Try.prog 58 (a_IsState1 59) := Is.mk' n_IsState1 Try.func58 (by kernel_rfl) (by kernel_rfl)
def G19 : Gam := G18.addX 58 c_IsState1
theorem gs19 : GS Try.prog G19 := GS.addX gs18 (s_IsState1 mixed gs18 is58 rfl)
theorem is75 : Is Try.prog 75 a_IndexFunc := Is.mk' n_IndexFunc Try.func75 (by kernel_rfl) (by kernel_rfl)
def G20 : Gam := G19.addX 75 (c_IndexFunc G19)
theorem gs20 : GS Try.prog G20 := GS.addX gs19 (s_IndexFunc mixed gs19 is75)
theorem is57 : Is Try.prog 57 (a_ContainsFunc 75) := Is.mk' n_ContainsFunc Try.func57 (by kernel_rfl) (by kernel_rfl)
def G21 : Gam := G20.addX 57 (c_ContainsFunc G19)
theorem gs21 : GS Try.prog G21 := GS.addX gs20 (s_ContainsFunc (Γ0 := G19) mixed gs20 is57 rfl)
theorem is35 : Is Try.prog 35 (a_IsState 56 54 58 57) := Is.mk' n_IsState Try.func35 (by kernel_rfl) (by kernel_rfl)
def G22 : Gam := G21.addX 35 c_IsState
theorem gs22 : GS Try.prog G22 := GS.addX gs21 (s_IsState (Γ0 := G19) mixed gs21 is35 rfl rfl rfl rfl)
theorem is39 : Is Try.prog 39 (a_isQuestion 56 59) := Is.mk' n_isQuestion Try.func39 (by kernel_rfl) (by kernel_rfl)
def G23 : Gam := G22.addX 39 c_isQuestion
theorem gs23 : GS Try.prog G23 := GS.addX gs22 (s_isQuestion mixed gs22 is39 rfl rfl)
theorem is66 : Is Try.prog 66 a_has := Is.mk' n_has Try.func66 (by kernel_rfl) (by kernel_rfl)
def G24 : Gam := G23.addX 66 c_has
theorem gs24 : GS Try.prog G24 := GS.addX gs23 (s_has mixed gs23 is66)
theorem is77 : Is Try.prog 77 (a_isFalse 66) := Is.mk' n_isFalse Try.func77 (by kernel_rfl) (by kernel_rfl)
def G25 : Gam := G24.addX 77 c_isFalse
theorem gs25 : GS Try.prog G25 := GS.addX gs24 (s_isFalse mixed gs24 is77 rfl)
theorem is78 : Is Try.prog 78 a_Clone := Is.mk' n_Clone Try.func78 (by kernel_rfl) (by kernel_rfl)
def G26 : Gam := G25.addX 78 c_Clone
theorem gs26 : GS Try.prog G26 := GS.addX gs25 (s_Clone mixed gs25 is78)
theorem is65 : Is Try.prog 65 a_answeredOneWay1 := Is.mk' n_answeredOneWay1 Try.func65 (by kernel_rfl) (by kernel_rfl)
def G27 : Gam := G26.addX 65 c_no
theorem gs27 : GS Try.prog G27 := GS.addX gs26 (s_answeredOneWay1 mixed gs26 is65)
theorem is64 : Is Try.prog 64 (a_after 78) := Is.mk' n_after Try.func64 (by kernel_rfl) (by kernel_rfl)
def G28 : Gam := G27.addX 64 (c_after G27)
theorem gs28 : GS Try.prog G28 := GS.addX gs27 (s_after mixed gs27 is64 rfl)
theorem is63 : Is Try.prog 63 (a_answered 77 64) := Is.mk' n_answered Try.func63 (by kernel_rfl) (by kernel_rfl)
def G29 : Gam := G28.addX 63 c_answered
theorem gs29 : GS Try.prog G29 := GS.addX gs28 (s_answered (Γ0 := G27) mixed gs28 is63 rfl rfl)
theorem is40 : Is Try.prog 40 (a_answeredOneWay 63 64 65 66) := Is.mk' n_answeredOneWay Try.func40 (by kernel_rfl) (by kernel_rfl)
def G30 : Gam := G29.addX 40 c_answeredOneWay
theorem gs30 : GS Try.prog G30 := GS.addX gs29 (s_answeredOneWay (Γ0 := G27) mixed gs29 is40 rfl rfl rfl rfl)
theorem is17 : Is Try.prog 17 (a_OneWayState 35 39 40) := Is.mk' n_OneWayState Try.func17 (by kernel_rfl) (by kernel_rfl)
def G31 : Gam := G30.addX 17 c_OneWayState
theorem gs31 : GS Try.prog G31 := GS.addX gs30 (s_OneWayState mixed gs30 is17 rfl rfl rfl)
theorem is14 : Is Try.prog 14 a_eqIntS := Is.mk' n_eqIntS Try.func14 (by kernel_rfl) (by kernel_rfl)
def G32 : Gam := G31.addX 14 c_eqIntS
theorem gs32 : GS Try.prog G32 := GS.addX gs31 (s_eqIntS mixed gs31 is14)
theorem is13 : Is Try.prog 13 (a_eqState 14) := Is.mk' n_eqState Try.func13 (by kernel_rfl) (by kernel_rfl)
def G33 : Gam := G32.addX 13 c_eqState
theorem gs33 : GS Try.prog G33 := GS.addX gs32 (s_eqState mixed gs32 is13 rfl)
theorem is22 : Is Try.prog 22 a_markIntS := Is.mk' n_markIntS Try.func22 (by kernel_rfl) (by kernel_rfl)
def G34 : Gam := G33.addX 22 c_markIntS
theorem gs34 : GS Try.prog G34 := GS.addX gs33 (s_markIntS mixed gs33 is22)
theorem is18 : Is Try.prog 18 (a_markState 22) := Is.mk' n_markState Try.func18 (by kernel_rfl) (by kernel_rfl)
def G35 : Gam := G34.addX 18 c_markState
theorem gs35 : GS Try.prog G35 := GS.addX gs34 (s_markState mixed gs34 is18 rfl)
theorem is23 : Is Try.prog 23 a_heldIntS := Is.mk' n_heldIntS Try.func23 (by kernel_rfl) (by kernel_rfl)
def G36 : Gam := G35.addX 23 c_heldIntS
theorem gs36 : GS Try.prog G36 := GS.addX gs35 (s_heldIntS mixed gs35 is23)
theorem is19 : Is Try.prog 19 (a_heldState 23) := Is.mk' n_heldState Try.func19 (by kernel_rfl) (by kernel_rfl)
def G37 : Gam := G36.addX 19 c_heldState
theorem gs37 : GS Try.prog G37 := GS.addX gs36 (s_heldState mixed gs36 is19 rfl)
theorem is4 : Is Try.prog 4 (a_x_OneWayState 8 10 16 15 17 13 18 19) := Is.mk' n_x_OneWayState Try.func4 (by kernel_rfl) (by kernel_rfl)
theorem law : Says Try.prog 4 c_x_OneWayState := s_x_OneWayState mixed gs37 is4 rfl rfl rfl rfl rfl rfl rfl rfl
theorem own : ownKnob Try.prog.godebug = none := by kernel_rfl
theorem laidOut : laidOutB Try.prog = true := by kernel_rfl
set_option maxRecDepth 100000 in
theorem lifted (os : Os) (started : os.Started) (H : Type) (enc : TypeId × Value → H) :
    ReturnsInHanded {} Try.checked os 4 .any (Rows.fnExactOneWayStateSpec.pre6 enc Try.prog Try.f4 Rows.fnExactOneWayStateRow.domain false) (Rows.fnExactOneWayStateSpec.post enc Try.prog Try.f4 false true false false) := by
  refine returnsInHanded_of_change (C := Try.checked) own started (by kernel_rfl) Try.func4
    (ChangeSpec.witness6 (enc := enc) (C := Try.checked) false ⟨#[], #[.agg #[.slice none 0 0, .int .i64 0], .agg #[.int .i64 0, .bool false]], []⟩ 8 (by kernel_rfl) (by kernel_rfl) (by kernel_rfl) (by kernel_rfl)) ?_
  intro W base args ds gs before hval0 hW _ _
  have hval : ∀ (j : Nat) t v, Try.f4.params[j]? = some t → args[j]? = some v → Value.okWide Try.prog W .any base t v := hval0
  obtain ⟨p, q, hA0, hV, _, _, _⟩ := id hW
  have hA : DataW.TrodAll enc Try.prog W 0 (fun _ => true) true Try.f4.params.toList args.toList ds p := hA0
  rw [Try.params4] at hA hval
  obtain ⟨v0, v1, d0, d1, p0, p1, rfl, rfl, rfl, h0, h1⟩ := trodAll_two hA
  obtain ⟨pv0, l0, m0, sl0, le0, hp0⟩ := open_state' Try.underlying24 (by kernel_rfl) (by kernel_rfl) (by kernel_rfl) Try.underlying22 Try.underlying3 (by kernel_rfl) Try.underlying3 (hval 0 24 v0 rfl rfl) h0
  obtain ⟨q1, y1, hp1⟩ := open_asked' Try.underlying35 (by kernel_rfl) (by kernel_rfl) Try.underlying3 Try.underlying4 (hval 1 35 v1 rfl rfl) h1
  have hcon : c_x_OneWayState ([.agg [pv0, .int .i64 m0], .agg [.int .i64 q1, .bool y1]].map .p) [] = some (.p (.bool true), [], []) := by simp [c_x_OneWayState, pure', sl0, le0]
  refine (calls_true (args := [.agg [pv0, .int .i64 m0], .agg [.int .i64 q1, .bool y1]]) (law _ _ _ _ _ hcon) rfl fun i hi => ?_).mono fun e W' ⟨he, hb⟩ => ⟨_, he, post_true hW rfl (fun l hl => ?_) laidOut (by kernel_rfl) (by kernel_rfl) Try.underlying4 hb⟩
  · match i, hi with
    | 0, _ => exact hp0
    | 1, _ => exact hp1
  · rw [Try.params4] at hl
    match l, hl with
    | [_, _], _ => rfl

theorem fnExactOneWayState_holds : Rows.FnExactOneWayStateSaid :=
  OpenClaim.holds_of_wide 4 Try.f4 rfl rfl rfl rfl rfl rfl rfl ⟨rfl, rfl, rfl, rfl, rfl⟩ rfl rfl rfl rfl rfl (by kernel_rfl) Try.func4 (by kernel_rfl)
    (of_decide_eq_true (by kernel_rfl)) (by unfold Func.isWrapper; rw [if_neg (by decide +kernel)]; exact ⟨rfl, rfl⟩)
    (fun os started H enc _ => lifted os started H enc)
#print axioms fnExactOneWayState_holds
end Go.Proofs.Yticidepkeffkhaa
