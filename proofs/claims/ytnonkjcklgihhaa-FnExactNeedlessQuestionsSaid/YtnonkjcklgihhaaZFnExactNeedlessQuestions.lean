/- FOR EVERY INPUT THE LAW 'FnExactNeedlessQuestions' RETURNS TRUE, AND THE INPUT READS AS IT DID. No condition beyond the row's own. -/
import Derived.Test.YtnonkjcklgihhaaChecked
import Derived.Test.YtnonkjcklgihhaaRows
import Derived.Test.YtnonkjcklgihhaaN1QO
set_option linter.unusedVariables false
set_option linter.unusedSimpArgs false
namespace Go.Proofs.Ytnonkjcklgihhaa
open Go Go.Proofs Go.Proofs.Ytnonkjcklgihhaa.Pam Go.ChangeShapes Go.WideShapes Go.ChangeAt Go.RowKit Go.Joins
theorem mixed : Try.prog.follows .mixedOrders = true := by kernel_rfl
def G0 : Gam := Gam.none
theorem gs0 : GS Try.prog G0 := GS.none
theorem is46 : Is Try.prog 46 a_szIntS := Is.mk' n_szIntS Try.func46 (by kernel_rfl) (by kernel_rfl)
def G1 : Gam := G0.addX 46 c_szIntS
theorem gs1 : GS Try.prog G1 := GS.addX gs0 (s_szIntS mixed gs0 is46)
theorem is13 : Is Try.prog 13 (a_szState 46) := Is.mk' n_szState Try.func13 (by kernel_rfl) (by kernel_rfl)
def G2 : Gam := G1.addX 13 c_szState
theorem gs2 : GS Try.prog G2 := GS.addX gs1 (s_szState mixed gs1 is13 rfl)
theorem is16 : Is Try.prog 16 a_toIntS := Is.mk' n_toIntS Try.func16 (by kernel_rfl) (by kernel_rfl)
def G3 : Gam := G2.addX 16 c_toIntS
theorem gs3 : GS Try.prog G3 := GS.addX gs2 (s_toIntS mixed gs2 is16)
theorem is15 : Is Try.prog 15 (a_toState 16) := Is.mk' n_toState Try.func15 (by kernel_rfl) (by kernel_rfl)
def G4 : Gam := G3.addX 15 c_toState
theorem gs4 : GS Try.prog G4 := GS.addX gs3 (s_toState mixed gs3 is15 rfl)
theorem is68 : Is Try.prog 68 a_l1In := Is.mk' n_l1In Try.func68 (by kernel_rfl) (by kernel_rfl)
def G5 : Gam := G4.addX 68 c_in
theorem gs5 : GS Try.prog G5 := GS.addX gs4 (s_l1In mixed gs4 is68)
theorem is75 : Is Try.prog 75 (a_l2State 68) := Is.mk' n_l2State Try.func75 (by kernel_rfl) (by kernel_rfl)
def G6 : Gam := G5.addX 75 c_IsState
theorem gs6 : GS Try.prog G6 := GS.addX gs5 (s_l2State mixed gs5 is75 rfl)
theorem is92 : Is Try.prog 92 (a_l2Numbers 68) := Is.mk' n_l2Numbers Try.func92 (by kernel_rfl) (by kernel_rfl)
def G7 : Gam := G6.addX 92 c_isCount
theorem gs7 : GS Try.prog G7 := GS.addX gs6 (s_l2Numbers mixed gs6 is92 rfl)
theorem is89 : Is Try.prog 89 (a_l2Asks 92 68) := Is.mk' n_l2Asks Try.func89 (by kernel_rfl) (by kernel_rfl)
def G8 : Gam := G7.addX 89 c_isQuestion
theorem gs8 : GS Try.prog G8 := GS.addX gs7 (s_l2Asks mixed gs7 is89 rfl rfl)
theorem is76 : Is Try.prog 76 (a_l2Question 89) := Is.mk' n_l2Question Try.func76 (by kernel_rfl) (by kernel_rfl)
def G9 : Gam := G8.addX 76 c_l2Question
theorem gs9 : GS Try.prog G9 := GS.addX gs8 (s_l2Question mixed gs8 is76 rfl)
theorem is52 : Is Try.prog 52 (a_l8Good 75 76) := Is.mk' n_l8Good Try.func52 (by kernel_rfl) (by kernel_rfl)
def G10 : Gam := G9.addX 52 c_areListed
theorem gs10 : GS Try.prog G10 := GS.addX gs9 (s_l8Good mixed gs9 is52 rfl rfl)
theorem is63 : Is Try.prog 63 a_l8Answers := Is.mk' n_l8Answers Try.func63 (by kernel_rfl) (by kernel_rfl)
def G11 : Gam := G10.addX 63 c_l8Answers
theorem gs11 : GS Try.prog G11 := GS.addX gs10 (s_l8Answers mixed gs10 is63)
theorem is54 : Is Try.prog 54 a_l1Own := Is.mk' n_l1Own Try.func54 (by kernel_rfl) (by kernel_rfl)
def G12 : Gam := G11.addX 54 c_Clone
theorem gs12 : GS Try.prog G12 := GS.addX gs11 (s_l1Own mixed gs11 is54)
theorem is90 : Is Try.prog 90 a_l2False := Is.mk' n_l2False Try.func90 (by kernel_rfl) (by kernel_rfl)
def G13 : Gam := G12.addX 90 c_l2False
theorem gs13 : GS Try.prog G13 := GS.addX gs12 (s_l2False mixed gs12 is90)
theorem is77 : Is Try.prog 77 (a_l2After 54 90) := Is.mk' n_l2After Try.func77 (by kernel_rfl) (by kernel_rfl)
def G14 : Gam := G13.addX 77 c_l2After
theorem gs14 : GS Try.prog G14 := GS.addX gs13 (s_l2After mixed gs13 is77 rfl rfl)
theorem is53 : Is Try.prog 53 (a_l8End 77) := Is.mk' n_l8End Try.func53 (by kernel_rfl) (by kernel_rfl)
def G15 : Gam := G14.addX 53 c_l8End
theorem gs15 : GS Try.prog G15 := GS.addX gs14 (s_l8End mixed gs14 is53 rfl)
theorem is81 : Is Try.prog 81 a_l2Open := Is.mk' n_l2Open Try.func81 (by kernel_rfl) (by kernel_rfl)
def G16 : Gam := G15.addX 81 c_l2Open
theorem gs16 : GS Try.prog G16 := GS.addX gs15 (s_l2Open mixed gs15 is81)
theorem is62 : Is Try.prog 62 (a_l8Left 63 53 81) := Is.mk' n_l8Left Try.func62 (by kernel_rfl) (by kernel_rfl)
def G17 : Gam := G16.addX 62 c_l8Left
theorem gs17 : GS Try.prog G17 := GS.addX gs16 (s_l8Left mixed gs16 is62 rfl rfl rfl)
theorem is59 : Is Try.prog 59 (a_l8Count 62) := Is.mk' n_l8Count Try.func59 (by kernel_rfl) (by kernel_rfl)
def G18 : Gam := G17.addX 59 c_count
theorem gs18 : GS Try.prog G18 := GS.addX gs17 (s_l8Count mixed gs17 is59 rfl)
theorem is61 : Is Try.prog 61 (a_l8Tell 59) := Is.mk' n_l8Tell Try.func61 (by kernel_rfl) (by kernel_rfl)
def G19 : Gam := G18.addX 61 c_l8Tell
theorem gs19 : GS Try.prog G19 := GS.addX gs18 (s_l8Tell mixed gs18 is61 rfl)
theorem is43 : Is Try.prog 43 (a_s_NeedlessQuestions 52 61 54) := Is.mk' n_s_NeedlessQuestions Try.func43 (by kernel_rfl) (by kernel_rfl)
def G20 : Gam := G19.addX 43 c_s_NeedlessQuestions
theorem gs20 : GS Try.prog G20 := GS.addX gs19 (s_s_NeedlessQuestions mixed gs19 is43 rfl rfl rfl)
theorem is73 : Is Try.prog 73 a_in := Is.mk' n_in Try.func73 (by kernel_rfl) (by kernel_rfl)
def G21 : Gam := G20.addX 73 c_in
theorem gs21 : GS Try.prog G21 := GS.addX gs20 (s_in mixed gs20 is73)
theorem is84 : Is Try.prog 84 (a_isCount 73) := Is.mk' n_isCount Try.func84 (by kernel_rfl) (by kernel_rfl)
def G22 : Gam := G21.addX 84 c_isCount
theorem gs22 : GS Try.prog G22 := GS.addX gs21 (s_isCount mixed gs21 is84 rfl)
theorem is85 : Is Try.prog 85 (a_isMost 73) := Is.mk' n_isMost Try.func85 (by kernel_rfl) (by kernel_rfl)
def G23 : Gam := G22.addX 85 c_isMost
theorem gs23 : GS Try.prog G23 := GS.addX gs22 (s_isMost mixed gs22 is85 rfl)
theorem is86 : Is Try.prog 86 (a_IsState1 73) := Is.mk' n_IsState1 Try.func86 (by kernel_rfl) (by kernel_rfl)
def G24 : Gam := G23.addX 86 c_IsState1
theorem gs24 : GS Try.prog G24 := GS.addX gs23 (s_IsState1 mixed gs23 is86 rfl)
theorem is72 : Is Try.prog 72 (a_isQuestion 84 73) := Is.mk' n_isQuestion Try.func72 (by kernel_rfl) (by kernel_rfl)
def G25 : Gam := G24.addX 72 c_isQuestion
theorem gs25 : GS Try.prog G25 := GS.addX gs24 (s_isQuestion mixed gs24 is72 rfl rfl)
theorem is71 : Is Try.prog 71 (a_areListed1 72) := Is.mk' n_areListed1 Try.func71 (by kernel_rfl) (by kernel_rfl)
def G26 : Gam := G25.addX 71 c_areListed1
theorem gs26 : GS Try.prog G26 := GS.addX gs25 (s_areListed1 mixed gs25 is71 rfl)
theorem is87 : Is Try.prog 87 a_IndexFunc := Is.mk' n_IndexFunc Try.func87 (by kernel_rfl) (by kernel_rfl)
def G27 : Gam := G26.addX 87 (c_IndexFunc G26)
theorem gs27 : GS Try.prog G27 := GS.addX gs26 (s_IndexFunc mixed gs26 is87)
theorem is70 : Is Try.prog 70 (a_ContainsFunc 87) := Is.mk' n_ContainsFunc Try.func70 (by kernel_rfl) (by kernel_rfl)
def G28 : Gam := G27.addX 70 (c_ContainsFunc G26)
theorem gs28 : GS Try.prog G28 := GS.addX gs27 (s_ContainsFunc (Γ0 := G26) mixed gs27 is70 rfl)
theorem is69 : Is Try.prog 69 (a_IsState 84 85 86 70) := Is.mk' n_IsState Try.func69 (by kernel_rfl) (by kernel_rfl)
def G29 : Gam := G28.addX 69 c_IsState
theorem gs29 : GS Try.prog G29 := GS.addX gs28 (s_IsState (Γ0 := G26) mixed gs28 is69 rfl rfl rfl rfl)
theorem is48 : Is Try.prog 48 (a_areListed 69 71 70) := Is.mk' n_areListed Try.func48 (by kernel_rfl) (by kernel_rfl)
def G30 : Gam := G29.addX 48 c_areListed
theorem gs30 : GS Try.prog G30 := GS.addX gs29 (s_areListed (Γ0 := G26) mixed gs29 is48 rfl rfl rfl)
theorem is80 : Is Try.prog 80 a_count1 := Is.mk' n_count1 Try.func80 (by kernel_rfl) (by kernel_rfl)
def G31 : Gam := G30.addX 80 c_count1
theorem gs31 : GS Try.prog G31 := GS.addX gs30 (s_count1 mixed gs30 is80)
theorem is51 : Is Try.prog 51 a_has := Is.mk' n_has Try.func51 (by kernel_rfl) (by kernel_rfl)
def G32 : Gam := G31.addX 51 c_has
theorem gs32 : GS Try.prog G32 := GS.addX gs31 (s_has mixed gs31 is51)
theorem is91 : Is Try.prog 91 (a_isFalse 51) := Is.mk' n_isFalse Try.func91 (by kernel_rfl) (by kernel_rfl)
def G33 : Gam := G32.addX 91 c_isFalse
theorem gs33 : GS Try.prog G33 := GS.addX gs32 (s_isFalse mixed gs32 is91 rfl)
theorem is79 : Is Try.prog 79 a_Clone := Is.mk' n_Clone Try.func79 (by kernel_rfl) (by kernel_rfl)
def G34 : Gam := G33.addX 79 c_Clone
theorem gs34 : GS Try.prog G34 := GS.addX gs33 (s_Clone mixed gs33 is79)
theorem is57 : Is Try.prog 57 (a_after 79) := Is.mk' n_after Try.func57 (by kernel_rfl) (by kernel_rfl)
def G35 : Gam := G34.addX 57 (c_after G34)
theorem gs35 : GS Try.prog G35 := GS.addX gs34 (s_after mixed gs34 is57 rfl)
theorem is78 : Is Try.prog 78 (a_answered 91 57) := Is.mk' n_answered Try.func78 (by kernel_rfl) (by kernel_rfl)
def G36 : Gam := G35.addX 78 c_answered
theorem gs36 : GS Try.prog G36 := GS.addX gs35 (s_answered (Γ0 := G34) mixed gs35 is78 rfl rfl)
theorem is55 : Is Try.prog 55 (a_told 78) := Is.mk' n_told Try.func55 (by kernel_rfl) (by kernel_rfl)
def G37 : Gam := G36.addX 55 c_l8End
theorem gs37 : GS Try.prog G37 := GS.addX gs36 (s_told mixed gs36 is55 rfl)
theorem is82 : Is Try.prog 82 a_opened := Is.mk' n_opened Try.func82 (by kernel_rfl) (by kernel_rfl)
def G38 : Gam := G37.addX 82 c_l2Open
theorem gs38 : GS Try.prog G38 := GS.addX gs37 (s_opened mixed gs37 is82)
theorem is64 : Is Try.prog 64 (a_lists 51 55 82) := Is.mk' n_lists Try.func64 (by kernel_rfl) (by kernel_rfl)
def G39 : Gam := G38.addX 64 (c_lists G38)
theorem gs39 : GS Try.prog G39 := GS.addX gs38 (s_lists mixed gs38 is64 rfl rfl rfl)
theorem is60 : Is Try.prog 60 (a_count 80 64) := Is.mk' n_count Try.func60 (by kernel_rfl) (by kernel_rfl)
def G40 : Gam := G39.addX 60 c_count
theorem gs40 : GS Try.prog G40 := GS.addX gs39 (s_count (Γ0 := G38) mixed gs39 is60 rfl rfl)
theorem is36 : Is Try.prog 36 (a_DoTell 48 60) := Is.mk' n_DoTell Try.func36 (by kernel_rfl) (by kernel_rfl)
def G41 : Gam := G40.addX 36 c_DoTell
theorem gs41 : GS Try.prog G41 := GS.addX gs40 (s_DoTell mixed gs40 is36 rfl rfl)
theorem is83 : Is Try.prog 83 a_Delete := Is.mk' n_Delete Try.func83 (by kernel_rfl) (by kernel_rfl)
def G42 : Gam := G41.addX 83 c_Delete
theorem gs42 : GS Try.prog G42 := GS.addX gs41 (s_Delete mixed gs41 is83)
theorem is67 : Is Try.prog 67 (a_without 79 83) := Is.mk' n_without Try.func67 (by kernel_rfl) (by kernel_rfl)
def G43 : Gam := G42.addX 67 c_without
theorem gs43 : GS Try.prog G43 := GS.addX gs42 (s_without mixed gs42 is67 rfl rfl)
theorem is44 : Is Try.prog 44 (a_NeedlessQuestions 36 67 60) := Is.mk' n_NeedlessQuestions Try.func44 (by kernel_rfl) (by kernel_rfl)
def G44 : Gam := G43.addX 44 c_NeedlessQuestions
theorem gs44 : GS Try.prog G44 := GS.addX gs43 (s_NeedlessQuestions mixed gs43 is44 rfl rfl rfl)
theorem is19 : Is Try.prog 19 a_eqIntS := Is.mk' n_eqIntS Try.func19 (by kernel_rfl) (by kernel_rfl)
def G45 : Gam := G44.addX 19 c_eqIntS
theorem gs45 : GS Try.prog G45 := GS.addX gs44 (s_eqIntS mixed gs44 is19)
theorem is18 : Is Try.prog 18 (a_eqState 19) := Is.mk' n_eqState Try.func18 (by kernel_rfl) (by kernel_rfl)
def G46 : Gam := G45.addX 18 c_eqState
theorem gs46 : GS Try.prog G46 := GS.addX gs45 (s_eqState mixed gs45 is18 rfl)
theorem is24 : Is Try.prog 24 a_markIntS := Is.mk' n_markIntS Try.func24 (by kernel_rfl) (by kernel_rfl)
def G47 : Gam := G46.addX 24 c_markIntS
theorem gs47 : GS Try.prog G47 := GS.addX gs46 (s_markIntS mixed gs46 is24)
theorem is23 : Is Try.prog 23 (a_markState 24) := Is.mk' n_markState Try.func23 (by kernel_rfl) (by kernel_rfl)
def G48 : Gam := G47.addX 23 c_markState
theorem gs48 : GS Try.prog G48 := GS.addX gs47 (s_markState mixed gs47 is23 rfl)
theorem is45 : Is Try.prog 45 a_heldIntS := Is.mk' n_heldIntS Try.func45 (by kernel_rfl) (by kernel_rfl)
def G49 : Gam := G48.addX 45 c_heldIntS
theorem gs49 : GS Try.prog G49 := GS.addX gs48 (s_heldIntS mixed gs48 is45)
theorem is12 : Is Try.prog 12 (a_x_NeedlessQuestions 13 15 16 43 44 19 18 23 24 45) := Is.mk' n_x_NeedlessQuestions Try.func12 (by kernel_rfl) (by kernel_rfl)
theorem law : Says Try.prog 12 c_x_NeedlessQuestions := s_x_NeedlessQuestions mixed gs49 is12 rfl rfl rfl rfl rfl rfl rfl rfl rfl rfl
theorem own : ownKnob Try.prog.godebug = none := by kernel_rfl
theorem laidOut : laidOutB Try.prog = true := by kernel_rfl
set_option maxRecDepth 100000 in
theorem lifted (os : Os) (started : os.Started) (H : Type) (enc : TypeId × Value → H) :
    ReturnsInHanded {} Try.checked os 12 .any (Rows.fnExactNeedlessQuestionsSpec.pre6 enc Try.prog Try.f12 Rows.fnExactNeedlessQuestionsRow.domain false) (Rows.fnExactNeedlessQuestionsSpec.post enc Try.prog Try.f12 false true false false) := by
  refine returnsInHanded_of_change (C := Try.checked) own started (by kernel_rfl) Try.func12
    (ChangeSpec.witness6 (enc := enc) (C := Try.checked) false ⟨#[], #[.agg #[.slice none 0 0, .int .i64 0], .slice none 0 0], []⟩ 8 (by kernel_rfl) (by kernel_rfl) (by kernel_rfl) (by kernel_rfl)) ?_
  intro W base args ds gs before hval0 hW _ _
  have hval : ∀ (j : Nat) t v, Try.f12.params[j]? = some t → args[j]? = some v → Value.okWide Try.prog W .any base t v := hval0
  obtain ⟨p, q, hA0, hV, _, _, _⟩ := id hW
  have hA : DataW.TrodAll enc Try.prog W 0 (fun _ => true) true Try.f12.params.toList args.toList ds p := hA0
  rw [Try.params12] at hA hval
  obtain ⟨v0, v1, d0, d1, p0, p1, rfl, rfl, rfl, h0, h1⟩ := trodAll_two hA
  obtain ⟨pv0, l0, m0, sl0, le0, hp0⟩ := open_state' Try.underlying24 (by kernel_rfl) (by kernel_rfl) (by kernel_rfl) Try.underlying22 Try.underlying3 (by kernel_rfl) Try.underlying3 (hval 0 24 v0 rfl rfl) h0
  obtain ⟨pv1, l1, sl1, le1, hp1⟩ := open_intsV Try.underlying22 Try.underlying3 (by kernel_rfl) (hval 1 22 v1 rfl rfl) h1
  have hcon : c_x_NeedlessQuestions ([.agg [pv0, .int .i64 m0], pv1].map .p) [] = some (.p (.bool true), [], []) := by simp [c_x_NeedlessQuestions, pure', sl0, le0, sl1, le1]
  refine (calls_true (args := [.agg [pv0, .int .i64 m0], pv1]) (law _ _ _ _ _ hcon) rfl fun i hi => ?_).mono fun e W' ⟨he, hb⟩ => ⟨_, he, post_true hW rfl (fun l hl => ?_) laidOut (by kernel_rfl) (by kernel_rfl) Try.underlying4 hb⟩
  · match i, hi with
    | 0, _ => exact hp0
    | 1, _ => exact hp1
  · rw [Try.params12] at hl
    match l, hl with
    | [_, _], _ => rfl

theorem fnExactNeedlessQuestions_holds : Rows.FnExactNeedlessQuestionsSaid :=
  OpenClaim.holds_of_wide 12 Try.f12 rfl rfl rfl rfl rfl rfl rfl ⟨rfl, rfl, rfl, rfl, rfl⟩ rfl rfl rfl rfl rfl (by kernel_rfl) Try.func12 (by kernel_rfl)
    (of_decide_eq_true (by kernel_rfl)) (by unfold Func.isWrapper; rw [if_neg (by decide +kernel)]; exact ⟨rfl, rfl⟩)
    (fun os started H enc _ => lifted os started H enc)
#print axioms fnExactNeedlessQuestions_holds
end Go.Proofs.Ytnonkjcklgihhaa
