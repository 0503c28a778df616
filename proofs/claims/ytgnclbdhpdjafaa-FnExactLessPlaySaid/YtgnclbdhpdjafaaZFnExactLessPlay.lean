/- FOR EVERY INPUT THE LAW 'FnExactLessPlay' RETURNS TRUE, AND THE INPUT READS AS IT DID. No condition beyond the row's own. -/
import Derived.Test.YtgnclbdhpdjafaaChecked
import Derived.Test.YtgnclbdhpdjafaaRows
import Derived.Test.YtgnclbdhpdjafaaGbNJ
set_option linter.unusedVariables false
set_option linter.unusedSimpArgs false
namespace Go.Proofs.Ytgnclbdhpdjafaa
open Go Go.Proofs Go.Proofs.Ytgnclbdhpdjafaa.Pam Go.ChangeShapes Go.WideShapes Go.ChangeAt Go.RowKit Go.Joins
theorem mixed : Try.prog.follows .mixedOrders = true := by kernel_rfl
def G0 : Gam := Gam.none
theorem gs0 : GS Try.prog G0 := GS.none
theorem is42 : Is Try.prog 42 a_szIntS := Is.mk' n_szIntS Try.func42 (by kernel_rfl) (by kernel_rfl)
def G1 : Gam := G0.addX 42 c_szIntS
theorem gs1 : GS Try.prog G1 := GS.addX gs0 (s_szIntS mixed gs0 is42)
theorem is14 : Is Try.prog 14 (a_szState 42) := Is.mk' n_szState Try.func14 (by kernel_rfl) (by kernel_rfl)
def G2 : Gam := G1.addX 14 c_szState
theorem gs2 : GS Try.prog G2 := GS.addX gs1 (s_szState mixed gs1 is14 rfl)
theorem is44 : Is Try.prog 44 a_toIntS := Is.mk' n_toIntS Try.func44 (by kernel_rfl) (by kernel_rfl)
def G3 : Gam := G2.addX 44 c_toIntS
theorem gs3 : GS Try.prog G3 := GS.addX gs2 (s_toIntS mixed gs2 is44)
theorem is16 : Is Try.prog 16 (a_toState 44) := Is.mk' n_toState Try.func16 (by kernel_rfl) (by kernel_rfl)
def G4 : Gam := G3.addX 16 c_toState
theorem gs4 : GS Try.prog G4 := GS.addX gs3 (s_toState mixed gs3 is16 rfl)
theorem is34 : Is Try.prog 34 a_l1In := Is.mk' n_l1In Try.func34 (by kernel_rfl) (by kernel_rfl)
def G5 : Gam := G4.addX 34 c_in
theorem gs5 : GS Try.prog G5 := GS.addX gs4 (s_l1In mixed gs4 is34)
theorem is64 : Is Try.prog 64 (a_l2State 34) := Is.mk' n_l2State Try.func64 (by kernel_rfl) (by kernel_rfl)
def G6 : Gam := G5.addX 64 c_IsState
theorem gs6 : GS Try.prog G6 := GS.addX gs5 (s_l2State mixed gs5 is64 rfl)
theorem is43 : Is Try.prog 43 (a_l6Short 64) := Is.mk' n_l6Short Try.func43 (by kernel_rfl) (by kernel_rfl)
def G7 : Gam := G6.addX 43 c_isShort
theorem gs7 : GS Try.prog G7 := GS.addX gs6 (s_l6Short mixed gs6 is43 rfl)
theorem is37 : Is Try.prog 37 a_start := Is.mk' n_start Try.func37 (by kernel_rfl) (by kernel_rfl)
def G8 : Gam := G7.addX 37 c_start
theorem gs8 : GS Try.prog G8 := GS.addX gs7 (s_start mixed gs7 is37)
theorem is62 : Is Try.prog 62 (a_l6Of 37) := Is.mk' n_l6Of Try.func62 (by kernel_rfl) (by kernel_rfl)
def G9 : Gam := G8.addX 62 c_l6Of
theorem gs9 : GS Try.prog G9 := GS.addX gs8 (s_l6Of mixed gs8 is62 rfl)
theorem is66 : Is Try.prog 66 a_l2Open := Is.mk' n_l2Open Try.func66 (by kernel_rfl) (by kernel_rfl)
def G10 : Gam := G9.addX 66 c_l2Open
theorem gs10 : GS Try.prog G10 := GS.addX gs9 (s_l2Open mixed gs9 is66)
theorem is46 : Is Try.prog 46 (a_l6Done 66) := Is.mk' n_l6Done Try.func46 (by kernel_rfl) (by kernel_rfl)
def G11 : Gam := G10.addX 46 c_l6Done
theorem gs11 : GS Try.prog G11 := GS.addX gs10 (s_l6Done mixed gs10 is46 rfl)
theorem is77 : Is Try.prog 77 a_l1Own := Is.mk' n_l1Own Try.func77 (by kernel_rfl) (by kernel_rfl)
def G12 : Gam := G11.addX 77 c_Clone
theorem gs12 : GS Try.prog G12 := GS.addX gs11 (s_l1Own mixed gs11 is77)
theorem is78 : Is Try.prog 78 a_l2False := Is.mk' n_l2False Try.func78 (by kernel_rfl) (by kernel_rfl)
def G13 : Gam := G12.addX 78 c_l2False
theorem gs13 : GS Try.prog G13 := GS.addX gs12 (s_l2False mixed gs12 is78)
theorem is71 : Is Try.prog 71 (a_l2After 77 78) := Is.mk' n_l2After Try.func71 (by kernel_rfl) (by kernel_rfl)
def G14 : Gam := G13.addX 71 c_l2After
theorem gs14 : GS Try.prog G14 := GS.addX gs13 (s_l2After mixed gs13 is71 rfl rfl)
theorem is55 : Is Try.prog 55 (a_l6After 71) := Is.mk' n_l6After Try.func55 (by kernel_rfl) (by kernel_rfl)
def G15 : Gam := G14.addX 55 c_l6After
theorem gs15 : GS Try.prog G15 := GS.addX gs14 (s_l6After mixed gs14 is55 rfl)
theorem is36 : Is Try.prog 36 a_l6Key := Is.mk' n_l6Key Try.func36 (by kernel_rfl) (by kernel_rfl)
def G16 : Gam := G15.addX 36 c_l6Key
theorem gs16 : GS Try.prog G16 := GS.addX gs15 (s_l6Key mixed gs15 is36)
theorem is35 : Is Try.prog 35 (a_l6Needs 62 46 55 36) := Is.mk' n_l6Needs Try.func35 (by kernel_rfl) (by kernel_rfl)
def G17 : Gam := G16.addX 35 c_l6Needs
theorem gs17 : GS Try.prog G17 := GS.addX gs16 (s_l6Needs mixed gs16 is35 rfl rfl rfl rfl)
theorem is68 : Is Try.prog 68 a_eqIntS := Is.mk' n_eqIntS Try.func68 (by kernel_rfl) (by kernel_rfl)
def G18 : Gam := G17.addX 68 c_eqIntS
theorem gs18 : GS Try.prog G18 := GS.addX gs17 (s_eqIntS mixed gs17 is68)
theorem is49 : Is Try.prog 49 a_l1Most := Is.mk' n_l1Most Try.func49 (by kernel_rfl) (by kernel_rfl)
def G19 : Gam := G18.addX 49 c_l1Most
theorem gs19 : GS Try.prog G19 := GS.addX gs18 (s_l1Most mixed gs18 is49)
theorem is48 : Is Try.prog 48 (a_l6NeedOf 55 68 36 49) := Is.mk' n_l6NeedOf Try.func48 (by kernel_rfl) (by kernel_rfl)
def G20 : Gam := G19.addX 48 c_l6NeedOf
theorem gs20 : GS Try.prog G20 := GS.addX gs19 (s_l6NeedOf mixed gs19 is48 rfl rfl rfl rfl)
theorem is53 : Is Try.prog 53 (a_l6Best 48 36) := Is.mk' n_l6Best Try.func53 (by kernel_rfl) (by kernel_rfl)
def G21 : Gam := G20.addX 53 c_l6Best
theorem gs21 : GS Try.prog G21 := GS.addX gs20 (s_l6Best mixed gs20 is53 rfl rfl)
theorem is29 : Is Try.prog 29 (a_s_LessPlay 43 34 35 46 53 55) := Is.mk' n_s_LessPlay Try.func29 (by kernel_rfl) (by kernel_rfl)
def G22 : Gam := G21.addX 29 c_s_LessPlay
theorem gs22 : GS Try.prog G22 := GS.addX gs21 (s_s_LessPlay mixed gs21 is29 rfl rfl rfl rfl rfl rfl)
theorem is38 : Is Try.prog 38 a_in := Is.mk' n_in Try.func38 (by kernel_rfl) (by kernel_rfl)
def G23 : Gam := G22.addX 38 c_in
theorem gs23 : GS Try.prog G23 := GS.addX gs22 (s_in mixed gs22 is38)
theorem is69 : Is Try.prog 69 (a_isCount 38) := Is.mk' n_isCount Try.func69 (by kernel_rfl) (by kernel_rfl)
def G24 : Gam := G23.addX 69 c_isCount
theorem gs24 : GS Try.prog G24 := GS.addX gs23 (s_isCount mixed gs23 is69 rfl)
theorem is74 : Is Try.prog 74 (a_isMost 38) := Is.mk' n_isMost Try.func74 (by kernel_rfl) (by kernel_rfl)
def G25 : Gam := G24.addX 74 c_isMost
theorem gs25 : GS Try.prog G25 := GS.addX gs24 (s_isMost mixed gs24 is74 rfl)
theorem is76 : Is Try.prog 76 (a_IsState1 38) := Is.mk' n_IsState1 Try.func76 (by kernel_rfl) (by kernel_rfl)
def G26 : Gam := G25.addX 76 c_IsState1
theorem gs26 : GS Try.prog G26 := GS.addX gs25 (s_IsState1 mixed gs25 is76 rfl)
theorem is80 : Is Try.prog 80 a_IndexFunc := Is.mk' n_IndexFunc Try.func80 (by kernel_rfl) (by kernel_rfl)
def G27 : Gam := G26.addX 80 (c_IndexFunc G26)
theorem gs27 : GS Try.prog G27 := GS.addX gs26 (s_IndexFunc mixed gs26 is80)
theorem is75 : Is Try.prog 75 (a_ContainsFunc 80) := Is.mk' n_ContainsFunc Try.func75 (by kernel_rfl) (by kernel_rfl)
def G28 : Gam := G27.addX 75 (c_ContainsFunc G26)
theorem gs28 : GS Try.prog G28 := GS.addX gs27 (s_ContainsFunc (Γ0 := G26) mixed gs27 is75 rfl)
theorem is65 : Is Try.prog 65 (a_IsState 69 74 76 75) := Is.mk' n_IsState Try.func65 (by kernel_rfl) (by kernel_rfl)
def G29 : Gam := G28.addX 65 c_IsState
theorem gs29 : GS Try.prog G29 := GS.addX gs28 (s_IsState (Γ0 := G26) mixed gs28 is65 rfl rfl rfl rfl)
theorem is45 : Is Try.prog 45 (a_isShort 65) := Is.mk' n_isShort Try.func45 (by kernel_rfl) (by kernel_rfl)
def G30 : Gam := G29.addX 45 c_isShort
theorem gs30 : GS Try.prog G30 := GS.addX gs29 (s_isShort mixed gs29 is45 rfl)
theorem is58 : Is Try.prog 58 (a_isOpen 38) := Is.mk' n_isOpen Try.func58 (by kernel_rfl) (by kernel_rfl)
def G31 : Gam := G30.addX 58 c_isOpen
theorem gs31 : GS Try.prog G31 := GS.addX gs30 (s_isOpen mixed gs30 is58 rfl)
theorem is39 : Is Try.prog 39 a_newLesser := Is.mk' n_newLesser Try.func39 (by kernel_rfl) (by kernel_rfl)
def G32 : Gam := G31.addX 39 c_newLesser
theorem gs32 : GS Try.prog G32 := GS.addX gs31 (s_newLesser mixed gs31 is39)
theorem is51 : Is Try.prog 51 a_opened := Is.mk' n_opened Try.func51 (by kernel_rfl) (by kernel_rfl)
def G33 : Gam := G32.addX 51 c_l2Open
theorem gs33 : GS Try.prog G33 := GS.addX gs32 (s_opened mixed gs32 is51)
theorem is57 : Is Try.prog 57 a_less := Is.mk' n_less Try.func57 (by kernel_rfl) (by kernel_rfl)
def G34 : Gam := G33.addX 57 c_less
theorem gs34 : GS Try.prog G34 := GS.addX gs33 (s_less mixed gs33 is57)
theorem is59 : Is Try.prog 59 a_has := Is.mk' n_has Try.func59 (by kernel_rfl) (by kernel_rfl)
def G35 : Gam := G34.addX 59 c_has
theorem gs35 : GS Try.prog G35 := GS.addX gs34 (s_has mixed gs34 is59)
theorem is73 : Is Try.prog 73 (a_isFalse 59) := Is.mk' n_isFalse Try.func73 (by kernel_rfl) (by kernel_rfl)
def G36 : Gam := G35.addX 73 c_isFalse
theorem gs36 : GS Try.prog G36 := GS.addX gs35 (s_isFalse mixed gs35 is73 rfl)
theorem is79 : Is Try.prog 79 a_Clone := Is.mk' n_Clone Try.func79 (by kernel_rfl) (by kernel_rfl)
def G37 : Gam := G36.addX 79 c_Clone
theorem gs37 : GS Try.prog G37 := GS.addX gs36 (s_Clone mixed gs36 is79)
theorem is72 : Is Try.prog 72 (a_after 79) := Is.mk' n_after Try.func72 (by kernel_rfl) (by kernel_rfl)
def G38 : Gam := G37.addX 72 (c_after G37)
theorem gs38 : GS Try.prog G38 := GS.addX gs37 (s_after mixed gs37 is72 rfl)
theorem is60 : Is Try.prog 60 (a_answered 73 72) := Is.mk' n_answered Try.func60 (by kernel_rfl) (by kernel_rfl)
def G39 : Gam := G38.addX 60 c_answered
theorem gs39 : GS Try.prog G39 := GS.addX gs38 (s_answered (Γ0 := G37) mixed gs38 is60 rfl rfl)
theorem is56 : Is Try.prog 56 (a_bothA 60) := Is.mk' n_bothA Try.func56 (by kernel_rfl) (by kernel_rfl)
def G40 : Gam := G39.addX 56 c_bothA
theorem gs40 : GS Try.prog G40 := GS.addX gs39 (s_bothA mixed gs39 is56 rfl)
theorem is63 : Is Try.prog 63 a_codeS := Is.mk' n_codeS Try.func63 (by kernel_rfl) (by kernel_rfl)
def G41 : Gam := G40.addX 63 c_codeS
theorem gs41 : GS Try.prog G41 := GS.addX gs40 (s_codeS mixed gs40 is63)
theorem is70 : Is Try.prog 70 (a_isEqualS 63) := Is.mk' n_isEqualS Try.func70 (by kernel_rfl) (by kernel_rfl)
def G42 : Gam := G41.addX 70 c_isEqualS
theorem gs42 : GS Try.prog G42 := GS.addX gs41 (s_isEqualS mixed gs41 is70 rfl)
theorem is52 : Is Try.prog 52 (a_lof 57 56 70 40) := Is.mk' n_lof Try.func52 (by kernel_rfl) (by kernel_rfl)
theorem is40 : Is Try.prog 40 (a_lneed 51 63 52) := Is.mk' n_lneed Try.func40 (by kernel_rfl) (by kernel_rfl)
noncomputable def G43 : Gam := G42.addX 40 c_lneed
theorem gs43 : GS Try.prog G43 := GS.addX gs42 (s_lneed mixed gs42 is40 is52 (by decide) rfl rfl rfl rfl rfl)
noncomputable def G44 : Gam := G43.addX 52 c_lof
theorem gs44 : GS Try.prog G44 := GS.addX gs43 (s_lof mixed gs43 is52 rfl rfl rfl rfl)
theorem is54 : Is Try.prog 54 (a_lbest 52 40) := Is.mk' n_lbest Try.func54 (by kernel_rfl) (by kernel_rfl)
noncomputable def G45 : Gam := G44.addX 54 c_lbest
theorem gs45 : GS Try.prog G45 := GS.addX gs44 (s_lbest mixed gs44 is54 rfl rfl)
theorem is30 : Is Try.prog 30 (a_LessPlay 45 58 39 51 54 57 59 60) := Is.mk' n_LessPlay Try.func30 (by kernel_rfl) (by kernel_rfl)
noncomputable def G46 : Gam := G45.addX 30 c_LessPlay
theorem gs46 : GS Try.prog G46 := GS.addX gs45 (s_LessPlay mixed gs45 is30 rfl rfl rfl rfl rfl rfl rfl rfl)
theorem is61 : Is Try.prog 61 a_eqAsked := Is.mk' n_eqAsked Try.func61 (by kernel_rfl) (by kernel_rfl)
noncomputable def G47 : Gam := G46.addX 61 c_eqAsked
theorem gs47 : GS Try.prog G47 := GS.addX gs46 (s_eqAsked mixed gs46 is61)
theorem is31 : Is Try.prog 31 (a_eqAskedS 61) := Is.mk' n_eqAskedS Try.func31 (by kernel_rfl) (by kernel_rfl)
noncomputable def G48 : Gam := G47.addX 31 c_eqAskedS
theorem gs48 : GS Try.prog G48 := GS.addX gs47 (s_eqAskedS mixed gs47 is31 rfl)
theorem is11 : Is Try.prog 11 a_eqIntS := Is.mk' n_eqIntS Try.func11 (by kernel_rfl) (by kernel_rfl)
noncomputable def G49 : Gam := G48.addX 11 c_eqIntS
theorem gs49 : GS Try.prog G49 := GS.addX gs48 (s_eqIntS mixed gs48 is11)
theorem is18 : Is Try.prog 18 (a_eqState 11) := Is.mk' n_eqState Try.func18 (by kernel_rfl) (by kernel_rfl)
noncomputable def G50 : Gam := G49.addX 18 c_eqState
theorem gs50 : GS Try.prog G50 := GS.addX gs49 (s_eqState mixed gs49 is18 rfl)
theorem is12 : Is Try.prog 12 a_markIntS := Is.mk' n_markIntS Try.func12 (by kernel_rfl) (by kernel_rfl)
noncomputable def G51 : Gam := G50.addX 12 c_markIntS
theorem gs51 : GS Try.prog G51 := GS.addX gs50 (s_markIntS mixed gs50 is12)
theorem is26 : Is Try.prog 26 (a_markState 12) := Is.mk' n_markState Try.func26 (by kernel_rfl) (by kernel_rfl)
noncomputable def G52 : Gam := G51.addX 26 c_markState
theorem gs52 : GS Try.prog G52 := GS.addX gs51 (s_markState mixed gs51 is26 rfl)
theorem is32 : Is Try.prog 32 a_markAskedS := Is.mk' n_markAskedS Try.func32 (by kernel_rfl) (by kernel_rfl)
noncomputable def G53 : Gam := G52.addX 32 c_markAskedS
theorem gs53 : GS Try.prog G53 := GS.addX gs52 (s_markAskedS mixed gs52 is32)
theorem is33 : Is Try.prog 33 a_heldAskedS := Is.mk' n_heldAskedS Try.func33 (by kernel_rfl) (by kernel_rfl)
noncomputable def G54 : Gam := G53.addX 33 c_heldAskedS
theorem gs54 : GS Try.prog G54 := GS.addX gs53 (s_heldAskedS mixed gs53 is33)
theorem is8 : Is Try.prog 8 (a_x_LessPlay 14 16 29 30 31 18 26 32 33) := Is.mk' n_x_LessPlay Try.func8 (by kernel_rfl) (by kernel_rfl)
theorem law : Says Try.prog 8 c_x_LessPlay := s_x_LessPlay mixed gs54 is8 rfl rfl rfl rfl rfl rfl rfl rfl rfl
theorem own : ownKnob Try.prog.godebug = none := by kernel_rfl
theorem laidOut : laidOutB Try.prog = true := by kernel_rfl
set_option maxRecDepth 100000 in
theorem lifted (os : Os) (started : os.Started) (H : Type) (enc : TypeId × Value → H) :
    ReturnsInHanded {} Try.checked os 8 .any (Rows.fnExactLessPlaySpec.pre6 enc Try.prog Try.f8 Rows.fnExactLessPlayRow.domain false) (Rows.fnExactLessPlaySpec.post enc Try.prog Try.f8 false true false false) := by
  refine returnsInHanded_of_change (C := Try.checked) own started (by kernel_rfl) Try.func8
    (ChangeSpec.witness6 (enc := enc) (C := Try.checked) false ⟨#[], #[.agg #[.slice none 0 0, .int .i64 0], .int .i64 0, .int .i64 0], []⟩ 8 (by kernel_rfl) (by kernel_rfl) (by kernel_rfl) (by kernel_rfl)) ?_
  intro W base args ds gs before hval0 hW _ _
  have hval : ∀ (j : Nat) t v, Try.f8.params[j]? = some t → args[j]? = some v → Value.okWide Try.prog W .any base t v := hval0
  obtain ⟨p, q, hA0, hV, _, _, _⟩ := id hW
  have hA : DataW.TrodAll enc Try.prog W 0 (fun _ => true) true Try.f8.params.toList args.toList ds p := hA0
  rw [Try.params8] at hA hval
  obtain ⟨v0, v1, v2, d0, d1, d2, p0, p1, p2, rfl, rfl, rfl, h0, h1, h2⟩ := trodAll_three hA
  obtain ⟨pv0, l0, m0, sl0, le0, hp0⟩ := open_state' Try.underlying29 (by kernel_rfl) (by kernel_rfl) (by kernel_rfl) Try.underlying22 Try.underlying3 (by kernel_rfl) Try.underlying3 (hval 0 29 v0 rfl rfl) h0
  obtain ⟨n1, rg1, hp1⟩ := open_int' Try.underlying3 (hval 1 3 v1 rfl rfl)
  obtain ⟨n2, rg2, hp2⟩ := open_int' Try.underlying3 (hval 2 3 v2 rfl rfl)
  have hcon : c_x_LessPlay ([.agg [pv0, .int .i64 m0], .int .i64 n1, .int .i64 n2].map .p) [] = some (.p (.bool true), [], []) := by simp [c_x_LessPlay, pure', sl0, le0]
  refine (calls_true (args := [.agg [pv0, .int .i64 m0], .int .i64 n1, .int .i64 n2]) (law _ _ _ _ _ hcon) rfl fun i hi => ?_).mono fun e W' ⟨he, hb⟩ => ⟨_, he, post_true hW rfl (fun l hl => ?_) laidOut (by kernel_rfl) (by kernel_rfl) Try.underlying4 hb⟩
  · match i, hi with
    | 0, _ => exact hp0
    | 1, _ => exact hp1
    | 2, _ => exact hp2
  · rw [Try.params8] at hl
    match l, hl with
    | [_, _, _], _ => rfl

theorem fnExactLessPlay_holds : Rows.FnExactLessPlaySaid :=
  OpenClaim.holds_of_wide 8 Try.f8 rfl rfl rfl rfl rfl rfl rfl ⟨rfl, rfl, rfl, rfl, rfl⟩ rfl rfl rfl rfl rfl (by kernel_rfl) Try.func8 (by kernel_rfl)
    (of_decide_eq_true (by kernel_rfl)) (by unfold Func.isWrapper; rw [if_neg (by decide +kernel)]; exact ⟨rfl, rfl⟩)
    (fun os started H enc _ => lifted os started H enc)
#print axioms fnExactLessPlay_holds
end Go.Proofs.Ytgnclbdhpdjafaa
