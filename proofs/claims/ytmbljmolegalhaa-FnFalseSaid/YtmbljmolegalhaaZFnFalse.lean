/- FOR EVERY INPUT THE LAW 'FnFalse' RETURNS TRUE, AND THE INPUT READS AS IT DID. No condition beyond the row's own. -/
import Derived.Test.YtmbljmolegalhaaChecked
import Derived.Test.YtmbljmolegalhaaRows
import Derived.Test.YtmbljmolegalhaaGaOX
set_option linter.unusedVariables false
set_option linter.unusedSimpArgs false
namespace Go.Proofs.Ytmbljmolegalhaa
open Go Go.Proofs Go.Proofs.Ytmbljmolegalhaa.Pam Go.ChangeShapes Go.WideShapes Go.ChangeAt Go.RowKit Go.Joins
theorem mixed : Try.prog.follows .mixedOrders = true := by kernel_rfl
def G0 : Gam := Gam.none
theorem gs0 : GS Try.prog G0 := GS.none
theorem is22 : Is Try.prog 22 a_vBig := Is.mk' n_vBig Try.func22 (by kernel_rfl) (by kernel_rfl)
def G1 : Gam := G0.addX 22 c_vBig
theorem gs1 : GS Try.prog G1 := GS.addX gs0 (s_vBig mixed gs0 is22)
theorem is105 : Is Try.prog 105 a_next := Is.mk' n_next Try.func105 (by kernel_rfl) (by kernel_rfl)
def G2 : Gam := G1.addX 105 c_next
theorem gs2 : GS Try.prog G2 := GS.addX gs1 (s_next mixed gs1 is105)
theorem is81 : Is Try.prog 81 (a_pick 105) := Is.mk' n_pick Try.func81 (by kernel_rfl) (by kernel_rfl)
def G3 : Gam := G2.addX 81 c_pick
theorem gs3 : GS Try.prog G3 := GS.addX gs2 (s_pick mixed gs2 is81 rfl)
theorem is80 : Is Try.prog 80 (a_among 81) := Is.mk' n_among Try.func80 (by kernel_rfl) (by kernel_rfl)
def G4 : Gam := G3.addX 80 c_among
theorem gs4 : GS Try.prog G4 := GS.addX gs3 (s_among mixed gs3 is80 rfl)
theorem is60 : Is Try.prog 60 a_l1Most := Is.mk' n_l1Most Try.func60 (by kernel_rfl) (by kernel_rfl)
def G5 : Gam := G4.addX 60 c_l1Most
theorem gs5 : GS Try.prog G5 := GS.addX gs4 (s_l1Most mixed gs4 is60)
theorem is66 : Is Try.prog 66 (a_drawn7 81 80 60) := Is.mk' n_drawn7 Try.func66 (by kernel_rfl) (by kernel_rfl)
def G6 : Gam := G5.addX 66 c_drawn7
theorem gs6 : GS Try.prog G6 := GS.addX gs5 (s_drawn7 mixed gs5 is66 rfl rfl rfl)
theorem is67 : Is Try.prog 67 (a_doubt7 80 81) := Is.mk' n_doubt7 Try.func67 (by kernel_rfl) (by kernel_rfl)
def G7 : Gam := G6.addX 67 c_doubt7
theorem gs7 : GS Try.prog G7 := GS.addX gs6 (s_doubt7 mixed gs6 is67 rfl rfl)
theorem is23 : Is Try.prog 23 (a_DrawChanceFalse 66 67) := Is.mk' n_DrawChanceFalse Try.func23 (by kernel_rfl) (by kernel_rfl)
def G8 : Gam := G7.addX 23 c_DrawChanceFalse
theorem gs8 : GS Try.prog G8 := GS.addX gs7 (s_DrawChanceFalse mixed gs7 is23 rfl rfl)
theorem is69 : Is Try.prog 69 a_in := Is.mk' n_in Try.func69 (by kernel_rfl) (by kernel_rfl)
def G9 : Gam := G8.addX 69 c_in
theorem gs9 : GS Try.prog G9 := GS.addX gs8 (s_in mixed gs8 is69)
theorem is68 : Is Try.prog 68 (a_isDrawn 69) := Is.mk' n_isDrawn Try.func68 (by kernel_rfl) (by kernel_rfl)
def G10 : Gam := G9.addX 68 c_isDrawn
theorem gs10 : GS Try.prog G10 := GS.addX gs9 (s_isDrawn mixed gs9 is68 rfl)
theorem is36 : Is Try.prog 36 (a_IsDoubt 69) := Is.mk' n_IsDoubt Try.func36 (by kernel_rfl) (by kernel_rfl)
def G11 : Gam := G10.addX 36 c_IsDoubt
theorem gs11 : GS Try.prog G11 := GS.addX gs10 (s_IsDoubt mixed gs10 is36 rfl)
theorem is104 : Is Try.prog 104 a_ways := Is.mk' n_ways Try.func104 (by kernel_rfl) (by kernel_rfl)
def G12 : Gam := G11.addX 104 c_ways
theorem gs12 : GS Try.prog G12 := GS.addX gs11 (s_ways mixed gs11 is104)
theorem is82 : Is Try.prog 82 a_power := Is.mk' n_power Try.func82 (by kernel_rfl) (by kernel_rfl)
def G13 : Gam := G12.addX 82 c_power
theorem gs13 : GS Try.prog G13 := GS.addX gs12 (s_power mixed gs12 is82)
theorem is89 : Is Try.prog 89 (a_ofThese 82) := Is.mk' n_ofThese Try.func89 (by kernel_rfl) (by kernel_rfl)
def G14 : Gam := G13.addX 89 c_ofThese
theorem gs14 : GS Try.prog G14 := GS.addX gs13 (s_ofThese mixed gs13 is89 rfl)
theorem is71 : Is Try.prog 71 (a_ofAny 104 89) := Is.mk' n_ofAny Try.func71 (by kernel_rfl) (by kernel_rfl)
def G15 : Gam := G14.addX 71 c_ofAny
theorem gs15 : GS Try.prog G15 := GS.addX gs14 (s_ofAny mixed gs14 is71 rfl rfl)
theorem is65 : Is Try.prog 65 a_fraction := Is.mk' n_fraction Try.func65 (by kernel_rfl) (by kernel_rfl)
def G16 : Gam := G15.addX 65 c_fraction
theorem gs16 : GS Try.prog G16 := GS.addX gs15 (s_fraction mixed gs15 is65)
theorem is70 : Is Try.prog 70 (a_dOf 82 65) := Is.mk' n_dOf Try.func70 (by kernel_rfl) (by kernel_rfl)
def G17 : Gam := G16.addX 70 c_dOf
theorem gs17 : GS Try.prog G17 := GS.addX gs16 (s_dOf mixed gs16 is70 rfl rfl)
theorem is24 : Is Try.prog 24 (a_ChanceFalse 68 69 36 71 70) := Is.mk' n_ChanceFalse Try.func24 (by kernel_rfl) (by kernel_rfl)
def G18 : Gam := G17.addX 24 c_ChanceFalse
theorem gs18 : GS Try.prog G18 := GS.addX gs17 (s_ChanceFalse mixed gs17 is24 rfl rfl rfl rfl rfl)
theorem is102 : Is Try.prog 102 a_l1In := Is.mk' n_l1In Try.func102 (by kernel_rfl) (by kernel_rfl)
def G19 : Gam := G18.addX 102 c_in
theorem gs19 : GS Try.prog G19 := GS.addX gs18 (s_l1In mixed gs18 is102)
theorem is83 : Is Try.prog 83 (a_l7Good 102) := Is.mk' n_l7Good Try.func83 (by kernel_rfl) (by kernel_rfl)
def G20 : Gam := G19.addX 83 c_IsDoubt
theorem gs20 : GS Try.prog G20 := GS.addX gs19 (s_l7Good mixed gs19 is83 rfl)
theorem is72 : Is Try.prog 72 (a_l7Drawn 83 102) := Is.mk' n_l7Drawn Try.func72 (by kernel_rfl) (by kernel_rfl)
def G21 : Gam := G20.addX 72 c_l7Drawn
theorem gs21 : GS Try.prog G21 := GS.addX gs20 (s_l7Drawn mixed gs20 is72 rfl rfl)
theorem is73 : Is Try.prog 73 a_l3Ways := Is.mk' n_l3Ways Try.func73 (by kernel_rfl) (by kernel_rfl)
def G22 : Gam := G21.addX 73 c_ways
theorem gs22 : GS Try.prog G22 := GS.addX gs21 (s_l3Ways mixed gs21 is73)
theorem is75 : Is Try.prog 75 a_l7Power := Is.mk' n_l7Power Try.func75 (by kernel_rfl) (by kernel_rfl)
def G23 : Gam := G22.addX 75 c_power
theorem gs23 : GS Try.prog G23 := GS.addX gs22 (s_l7Power mixed gs22 is75)
theorem is74 : Is Try.prog 74 (a_l7Parts 75) := Is.mk' n_l7Parts Try.func74 (by kernel_rfl) (by kernel_rfl)
def G24 : Gam := G23.addX 74 c_l7Parts
theorem gs24 : GS Try.prog G24 := GS.addX gs23 (s_l7Parts mixed gs23 is74 rfl)
theorem is63 : Is Try.prog 63 (a_l7Cut 60) := Is.mk' n_l7Cut Try.func63 (by kernel_rfl) (by kernel_rfl)
def G25 : Gam := G24.addX 63 c_fraction
theorem gs25 : GS Try.prog G25 := GS.addX gs24 (s_l7Cut mixed gs24 is63 rfl)
theorem is25 : Is Try.prog 25 (a_s_ChanceFalse 72 73 74 75 63) := Is.mk' n_s_ChanceFalse Try.func25 (by kernel_rfl) (by kernel_rfl)
def G26 : Gam := G25.addX 25 c_ChanceFalse
theorem gs26 : GS Try.prog G26 := GS.addX gs25 (s_s_ChanceFalse mixed gs25 is25 rfl rfl rfl rfl rfl)
theorem is76 : Is Try.prog 76 (a_dWithin 71) := Is.mk' n_dWithin Try.func76 (by kernel_rfl) (by kernel_rfl)
def G27 : Gam := G26.addX 76 c_dWithin
theorem gs27 : GS Try.prog G27 := GS.addX gs26 (s_dWithin mixed gs26 is76 rfl)
theorem is26 : Is Try.prog 26 (a_ChanceWithin 68 69 36 76 70) := Is.mk' n_ChanceWithin Try.func26 (by kernel_rfl) (by kernel_rfl)
def G28 : Gam := G27.addX 26 c_ChanceWithin
theorem gs28 : GS Try.prog G28 := GS.addX gs27 (s_ChanceWithin mixed gs27 is26 rfl rfl rfl rfl rfl)
theorem is77 : Is Try.prog 77 (a_l7Within 73 74) := Is.mk' n_l7Within Try.func77 (by kernel_rfl) (by kernel_rfl)
def G29 : Gam := G28.addX 77 c_l7Within
theorem gs29 : GS Try.prog G29 := GS.addX gs28 (s_l7Within mixed gs28 is77 rfl rfl)
theorem is27 : Is Try.prog 27 (a_s_ChanceWithin 72 77 75 63) := Is.mk' n_s_ChanceWithin Try.func27 (by kernel_rfl) (by kernel_rfl)
def G30 : Gam := G29.addX 27 c_ChanceWithin
theorem gs30 : GS Try.prog G30 := GS.addX gs29 (s_s_ChanceWithin mixed gs29 is27 rfl rfl rfl rfl)
theorem is28 : Is Try.prog 28 (a_MeanFalse 68 36 65) := Is.mk' n_MeanFalse Try.func28 (by kernel_rfl) (by kernel_rfl)
def G31 : Gam := G30.addX 28 c_MeanFalse
theorem gs31 : GS Try.prog G31 := GS.addX gs30 (s_MeanFalse mixed gs30 is28 rfl rfl rfl)
theorem is29 : Is Try.prog 29 (a_s_MeanFalse 72 63) := Is.mk' n_s_MeanFalse Try.func29 (by kernel_rfl) (by kernel_rfl)
def G32 : Gam := G31.addX 29 c_MeanFalse
theorem gs32 : GS Try.prog G32 := GS.addX gs31 (s_s_MeanFalse mixed gs31 is29 rfl rfl)
theorem is78 : Is Try.prog 78 (a_majority 76) := Is.mk' n_majority Try.func78 (by kernel_rfl) (by kernel_rfl)
def G33 : Gam := G32.addX 78 c_majority
theorem gs33 : GS Try.prog G33 := GS.addX gs32 (s_majority mixed gs32 is78 rfl)
theorem is30 : Is Try.prog 30 (a_ChanceMajority 69 36 78 70) := Is.mk' n_ChanceMajority Try.func30 (by kernel_rfl) (by kernel_rfl)
def G34 : Gam := G33.addX 30 c_ChanceMajority
theorem gs34 : GS Try.prog G34 := GS.addX gs33 (s_ChanceMajority mixed gs33 is30 rfl rfl rfl rfl)
theorem is79 : Is Try.prog 79 (a_l7Majority 77) := Is.mk' n_l7Majority Try.func79 (by kernel_rfl) (by kernel_rfl)
def G35 : Gam := G34.addX 79 c_l7Majority
theorem gs35 : GS Try.prog G35 := GS.addX gs34 (s_l7Majority mixed gs34 is79 rfl)
theorem is31 : Is Try.prog 31 (a_s_ChanceMajority 72 79 75 63) := Is.mk' n_s_ChanceMajority Try.func31 (by kernel_rfl) (by kernel_rfl)
def G36 : Gam := G35.addX 31 c_ChanceMajority
theorem gs36 : GS Try.prog G36 := GS.addX gs35 (s_s_ChanceMajority mixed gs35 is31 rfl rfl rfl rfl)
theorem is33 : Is Try.prog 33 a_vCut := Is.mk' n_vCut Try.func33 (by kernel_rfl) (by kernel_rfl)
def G37 : Gam := G36.addX 33 c_vCut
theorem gs37 : GS Try.prog G37 := GS.addX gs36 (s_vCut mixed gs36 is33)
theorem is32 : Is Try.prog 32 (a_DrawRepeatsFor 67 81 80) := Is.mk' n_DrawRepeatsFor Try.func32 (by kernel_rfl) (by kernel_rfl)
def G38 : Gam := G37.addX 32 c_DrawRepeatsFor
theorem gs38 : GS Try.prog G38 := GS.addX gs37 (s_DrawRepeatsFor mixed gs37 is32 rfl rfl rfl)
theorem is34 : Is Try.prog 34 (a_RepeatsFor 36 78 82) := Is.mk' n_RepeatsFor Try.func34 (by kernel_rfl) (by kernel_rfl)
def G39 : Gam := G38.addX 34 c_RepeatsFor
theorem gs39 : GS Try.prog G39 := GS.addX gs38 (s_RepeatsFor mixed gs38 is34 rfl rfl rfl)
theorem is35 : Is Try.prog 35 (a_s_RepeatsFor 83 79 75) := Is.mk' n_s_RepeatsFor Try.func35 (by kernel_rfl) (by kernel_rfl)
def G40 : Gam := G39.addX 35 c_RepeatsFor
theorem gs40 : GS Try.prog G40 := GS.addX gs39 (s_s_RepeatsFor mixed gs39 is35 rfl rfl rfl)
theorem is37 : Is Try.prog 37 (a_s_IsDoubt 83) := Is.mk' n_s_IsDoubt Try.func37 (by kernel_rfl) (by kernel_rfl)
def G41 : Gam := G40.addX 37 c_s_IsDoubt
theorem gs41 : GS Try.prog G41 := GS.addX gs40 (s_s_IsDoubt mixed gs40 is37 rfl)
theorem is38 : Is Try.prog 38 a_vPlus := Is.mk' n_vPlus Try.func38 (by kernel_rfl) (by kernel_rfl)
def G42 : Gam := G41.addX 38 c_vPlus
theorem gs42 : GS Try.prog G42 := GS.addX gs41 (s_vPlus mixed gs41 is38)
theorem is39 : Is Try.prog 39 a_vLess := Is.mk' n_vLess Try.func39 (by kernel_rfl) (by kernel_rfl)
def G43 : Gam := G42.addX 39 c_vLess
theorem gs43 : GS Try.prog G43 := GS.addX gs42 (s_vLess mixed gs42 is39)
theorem is6 : Is Try.prog 6 (a_x_False 22 23 24 25 26 27 28 29 30 31 33 32 34 35 36 37 38 39) := Is.mk' n_x_False Try.func6 (by kernel_rfl) (by kernel_rfl)
theorem law : Says Try.prog 6 c_x_False := s_x_False mixed gs43 is6 rfl rfl rfl rfl rfl rfl rfl rfl rfl rfl rfl rfl rfl rfl rfl rfl rfl rfl
theorem own : ownKnob Try.prog.godebug = none := by kernel_rfl
theorem laidOut : laidOutB Try.prog = true := by kernel_rfl
set_option maxRecDepth 100000 in
theorem lifted (os : Os) (started : os.Started) (H : Type) (enc : TypeId × Value → H) :
    ReturnsInHanded {} Try.checked os 6 .any (Rows.fnFalseSpec.pre6 enc Try.prog Try.f6 Rows.fnFalseRow.domain false) (Rows.fnFalseSpec.post enc Try.prog Try.f6 false true false false) := by
  refine returnsInHanded_of_change (C := Try.checked) own started (by kernel_rfl) Try.func6
    (ChangeSpec.witness6 (enc := enc) (C := Try.checked) false ⟨#[], #[.slice none 0 0], []⟩ 8 (by kernel_rfl) (by kernel_rfl) (by kernel_rfl) (by kernel_rfl)) ?_
  intro W base args ds gs before hval0 hW _ _
  have hval : ∀ (j : Nat) t v, Try.f6.params[j]? = some t → args[j]? = some v → Value.okWide Try.prog W .any base t v := hval0
  obtain ⟨p, q, hA0, hV, _, _, _⟩ := id hW
  have hA : DataW.TrodAll enc Try.prog W 0 (fun _ => true) true Try.f6.params.toList args.toList ds p := hA0
  rw [Try.params6] at hA hval
  obtain ⟨v0, d0, rfl, rfl, h0⟩ := trodAll_one hA
  obtain ⟨pv0, l0, sl0, le0, hp0⟩ := open_bytesV Try.underlying39 Try.underlying5 (by kernel_rfl) (hval 0 39 v0 rfl rfl) h0
  have hcon : c_x_False ([pv0].map .p) [] = some (.p (.bool true), [], []) := by simp [c_x_False, pure', sl0, le0]
  refine (calls_true (args := [pv0]) (law _ _ _ _ _ hcon) rfl fun i hi => ?_).mono fun e W' ⟨he, hb⟩ => ⟨_, he, post_true hW rfl (fun l hl => ?_) laidOut (by kernel_rfl) (by kernel_rfl) Try.underlying4 hb⟩
  · match i, hi with
    | 0, _ => exact hp0
  · rw [Try.params6] at hl
    match l, hl with
    | [_], _ => rfl

theorem fnFalse_holds : Rows.FnFalseSaid :=
  OpenClaim.holds_of_wide 6 Try.f6 rfl rfl rfl rfl rfl rfl rfl ⟨rfl, rfl, rfl, rfl, rfl⟩ rfl rfl rfl rfl rfl (by kernel_rfl) Try.func6 (by kernel_rfl)
    (of_decide_eq_true (by kernel_rfl)) (by unfold Func.isWrapper; rw [if_neg (by decide +kernel)]; exact ⟨rfl, rfl⟩)
    (fun os started H enc _ => lifted os started H enc)
#print axioms fnFalse_holds
end Go.Proofs.Ytmbljmolegalhaa
