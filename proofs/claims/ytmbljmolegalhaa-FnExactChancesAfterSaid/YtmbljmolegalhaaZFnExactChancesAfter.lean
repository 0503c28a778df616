/- FOR EVERY INPUT THE LAW 'FnExactChancesAfter' RETURNS TRUE, AND THE INPUT READS AS IT DID. No condition beyond the row's own. -/
import Derived.Test.YtmbljmolegalhaaChecked
import Derived.Test.YtmbljmolegalhaaRows
import Derived.Test.YtmbljmolegalhaaGcLT
set_option linter.unusedVariables false
set_option linter.unusedSimpArgs false
namespace Go.Proofs.Ytmbljmolegalhaa
open Go Go.Proofs Go.Proofs.Ytmbljmolegalhaa.Pam Go.ChangeShapes Go.WideShapes Go.ChangeAt Go.RowKit Go.Joins
theorem mixed : Try.prog.follows .mixedOrders = true := by kernel_rfl
def G0 : Gam := Gam.none
theorem gs0 : GS Try.prog G0 := GS.none
theorem is11 : Is Try.prog 11 a_szAskedS := Is.mk' n_szAskedS Try.func11 (by kernel_rfl) (by kernel_rfl)
def G1 : Gam := G0.addX 11 c_szAskedS
theorem gs1 : GS Try.prog G1 := GS.addX gs0 (s_szAskedS mixed gs0 is11)
theorem is56 : Is Try.prog 56 a_toAsked := Is.mk' n_toAsked Try.func56 (by kernel_rfl) (by kernel_rfl)
def G2 : Gam := G1.addX 56 c_toAsked
theorem gs2 : GS Try.prog G2 := GS.addX gs1 (s_toAsked mixed gs1 is56)
theorem is13 : Is Try.prog 13 (a_toAskedS 56) := Is.mk' n_toAskedS Try.func13 (by kernel_rfl) (by kernel_rfl)
def G3 : Gam := G2.addX 13 c_toAskedS
theorem gs3 : GS Try.prog G3 := GS.addX gs2 (s_toAskedS mixed gs2 is13 rfl)
theorem is14 : Is Try.prog 14 a_toDoubt := Is.mk' n_toDoubt Try.func14 (by kernel_rfl) (by kernel_rfl)
def G4 : Gam := G3.addX 14 c_toDoubt
theorem gs4 : GS Try.prog G4 := GS.addX gs3 (s_toDoubt mixed gs3 is14)
theorem is102 : Is Try.prog 102 a_l1In := Is.mk' n_l1In Try.func102 (by kernel_rfl) (by kernel_rfl)
def G5 : Gam := G4.addX 102 c_in
theorem gs5 : GS Try.prog G5 := GS.addX gs4 (s_l1In mixed gs4 is102)
theorem is101 : Is Try.prog 101 (a_l2Numbers 102) := Is.mk' n_l2Numbers Try.func101 (by kernel_rfl) (by kernel_rfl)
def G6 : Gam := G5.addX 101 c_isCount
theorem gs6 : GS Try.prog G6 := GS.addX gs5 (s_l2Numbers mixed gs5 is101 rfl)
theorem is62 : Is Try.prog 62 (a_l2Asks 101 102) := Is.mk' n_l2Asks Try.func62 (by kernel_rfl) (by kernel_rfl)
def G7 : Gam := G6.addX 62 c_isQuestion
theorem gs7 : GS Try.prog G7 := GS.addX gs6 (s_l2Asks mixed gs6 is62 rfl rfl)
theorem is96 : Is Try.prog 96 (a_l2Answers 62 101) := Is.mk' n_l2Answers Try.func96 (by kernel_rfl) (by kernel_rfl)
def G8 : Gam := G7.addX 96 c_l2Answers
theorem gs8 : GS Try.prog G8 := GS.addX gs7 (s_l2Answers mixed gs7 is96 rfl rfl)
theorem is83 : Is Try.prog 83 (a_l7Good 102) := Is.mk' n_l7Good Try.func83 (by kernel_rfl) (by kernel_rfl)
def G9 : Gam := G8.addX 83 c_IsDoubt
theorem gs9 : GS Try.prog G9 := GS.addX gs8 (s_l7Good mixed gs8 is83 rfl)
theorem is54 : Is Try.prog 54 (a_l7Answers 96 83) := Is.mk' n_l7Answers Try.func54 (by kernel_rfl) (by kernel_rfl)
def G10 : Gam := G9.addX 54 c_l7Answers
theorem gs10 : GS Try.prog G10 := GS.addX gs9 (s_l7Answers mixed gs9 is54 rfl rfl)
theorem is119 : Is Try.prog 119 a_l2False := Is.mk' n_l2False Try.func119 (by kernel_rfl) (by kernel_rfl)
def G11 : Gam := G10.addX 119 c_l2False
theorem gs11 : GS Try.prog G11 := GS.addX gs10 (s_l2False mixed gs10 is119)
theorem is97 : Is Try.prog 97 (a_l2Many 119) := Is.mk' n_l2Many Try.func97 (by kernel_rfl) (by kernel_rfl)
def G12 : Gam := G11.addX 97 c_falseFor
theorem gs12 : GS Try.prog G12 := GS.addX gs11 (s_l2Many mixed gs11 is97 rfl)
theorem is75 : Is Try.prog 75 a_l7Power := Is.mk' n_l7Power Try.func75 (by kernel_rfl) (by kernel_rfl)
def G13 : Gam := G12.addX 75 c_power
theorem gs13 : GS Try.prog G13 := GS.addX gs12 (s_l7Power mixed gs12 is75)
theorem is74 : Is Try.prog 74 (a_l7Parts 75) := Is.mk' n_l7Parts Try.func74 (by kernel_rfl) (by kernel_rfl)
def G14 : Gam := G13.addX 74 c_l7Parts
theorem gs14 : GS Try.prog G14 := GS.addX gs13 (s_l7Parts mixed gs13 is74 rfl)
theorem is55 : Is Try.prog 55 (a_l7After 97 74) := Is.mk' n_l7After Try.func55 (by kernel_rfl) (by kernel_rfl)
def G15 : Gam := G14.addX 55 c_shares
theorem gs15 : GS Try.prog G15 := GS.addX gs14 (s_l7After mixed gs14 is55 rfl rfl)
theorem is60 : Is Try.prog 60 a_l1Most := Is.mk' n_l1Most Try.func60 (by kernel_rfl) (by kernel_rfl)
def G16 : Gam := G15.addX 60 c_l1Most
theorem gs16 : GS Try.prog G16 := GS.addX gs15 (s_l1Most mixed gs15 is60)
theorem is63 : Is Try.prog 63 (a_l7Cut 60) := Is.mk' n_l7Cut Try.func63 (by kernel_rfl) (by kernel_rfl)
def G17 : Gam := G16.addX 63 c_fraction
theorem gs17 : GS Try.prog G17 := GS.addX gs16 (s_l7Cut mixed gs16 is63 rfl)
theorem is44 : Is Try.prog 44 (a_s_ChancesAfter 54 55 63) := Is.mk' n_s_ChancesAfter Try.func44 (by kernel_rfl) (by kernel_rfl)
def G18 : Gam := G17.addX 44 c_s_ChancesAfter
theorem gs18 : GS Try.prog G18 := GS.addX gs17 (s_s_ChancesAfter mixed gs17 is44 rfl rfl rfl)
theorem is69 : Is Try.prog 69 a_in := Is.mk' n_in Try.func69 (by kernel_rfl) (by kernel_rfl)
def G19 : Gam := G18.addX 69 c_in
theorem gs19 : GS Try.prog G19 := GS.addX gs18 (s_in mixed gs18 is69)
theorem is103 : Is Try.prog 103 (a_isCount 69) := Is.mk' n_isCount Try.func103 (by kernel_rfl) (by kernel_rfl)
def G20 : Gam := G19.addX 103 c_isCount
theorem gs20 : GS Try.prog G20 := GS.addX gs19 (s_isCount mixed gs19 is103 rfl)
theorem is64 : Is Try.prog 64 (a_isQuestion 103 69) := Is.mk' n_isQuestion Try.func64 (by kernel_rfl) (by kernel_rfl)
def G21 : Gam := G20.addX 64 c_isQuestion
theorem gs21 : GS Try.prog G21 := GS.addX gs20 (s_isQuestion mixed gs20 is64 rfl rfl)
theorem is121 : Is Try.prog 121 (a_areAsked1 64) := Is.mk' n_areAsked1 Try.func121 (by kernel_rfl) (by kernel_rfl)
def G22 : Gam := G21.addX 121 c_areAsked1
theorem gs22 : GS Try.prog G22 := GS.addX gs21 (s_areAsked1 mixed gs21 is121 rfl)
theorem is129 : Is Try.prog 129 a_IndexFuncA := Is.mk' n_IndexFuncA Try.func129 (by kernel_rfl) (by kernel_rfl)
def G23 : Gam := G22.addX 129 (c_IndexFuncA G22)
theorem gs23 : GS Try.prog G23 := GS.addX gs22 (s_IndexFuncA mixed gs22 is129)
theorem is120 : Is Try.prog 120 (a_ContainsFuncA 129) := Is.mk' n_ContainsFuncA Try.func120 (by kernel_rfl) (by kernel_rfl)
def G24 : Gam := G23.addX 120 (c_ContainsFuncA G22)
theorem gs24 : GS Try.prog G24 := GS.addX gs23 (s_ContainsFuncA (Γ0 := G22) mixed gs23 is120 rfl)
theorem is98 : Is Try.prog 98 (a_areAsked 103 121 120) := Is.mk' n_areAsked Try.func98 (by kernel_rfl) (by kernel_rfl)
def G25 : Gam := G24.addX 98 c_areAsked
theorem gs25 : GS Try.prog G25 := GS.addX gs24 (s_areAsked (Γ0 := G22) mixed gs24 is98 rfl rfl rfl)
theorem is36 : Is Try.prog 36 (a_IsDoubt 69) := Is.mk' n_IsDoubt Try.func36 (by kernel_rfl) (by kernel_rfl)
def G26 : Gam := G25.addX 36 c_IsDoubt
theorem gs26 : GS Try.prog G26 := GS.addX gs25 (s_IsDoubt mixed gs25 is36 rfl)
theorem is100 : Is Try.prog 100 a_has := Is.mk' n_has Try.func100 (by kernel_rfl) (by kernel_rfl)
def G27 : Gam := G26.addX 100 c_has
theorem gs27 : GS Try.prog G27 := GS.addX gs26 (s_has mixed gs26 is100)
theorem is130 : Is Try.prog 130 (a_isFalse 100) := Is.mk' n_isFalse Try.func130 (by kernel_rfl) (by kernel_rfl)
def G28 : Gam := G27.addX 130 c_isFalse
theorem gs28 : GS Try.prog G28 := GS.addX gs27 (s_isFalse mixed gs27 is130 rfl)
theorem is122 : Is Try.prog 122 (a_falseFor 130) := Is.mk' n_falseFor Try.func122 (by kernel_rfl) (by kernel_rfl)
def G29 : Gam := G28.addX 122 c_falseFor
theorem gs29 : GS Try.prog G29 := GS.addX gs28 (s_falseFor mixed gs28 is122 rfl)
theorem is82 : Is Try.prog 82 a_power := Is.mk' n_power Try.func82 (by kernel_rfl) (by kernel_rfl)
def G30 : Gam := G29.addX 82 c_power
theorem gs30 : GS Try.prog G30 := GS.addX gs29 (s_power mixed gs29 is82)
theorem is89 : Is Try.prog 89 (a_ofThese 82) := Is.mk' n_ofThese Try.func89 (by kernel_rfl) (by kernel_rfl)
def G31 : Gam := G30.addX 89 c_ofThese
theorem gs31 : GS Try.prog G31 := GS.addX gs30 (s_ofThese mixed gs30 is89 rfl)
theorem is123 : Is Try.prog 123 a_sum := Is.mk' n_sum Try.func123 (by kernel_rfl) (by kernel_rfl)
def G32 : Gam := G31.addX 123 c_sum
theorem gs32 : GS Try.prog G32 := GS.addX gs31 (s_sum mixed gs31 is123)
theorem is99 : Is Try.prog 99 (a_shares 122 89 123) := Is.mk' n_shares Try.func99 (by kernel_rfl) (by kernel_rfl)
def G33 : Gam := G32.addX 99 c_shares
theorem gs33 : GS Try.prog G33 := GS.addX gs32 (s_shares mixed gs32 is99 rfl rfl rfl)
theorem is57 : Is Try.prog 57 (a_sharesAfter 98 36 99) := Is.mk' n_sharesAfter Try.func57 (by kernel_rfl) (by kernel_rfl)
def G34 : Gam := G33.addX 57 c_sharesAfter
theorem gs34 : GS Try.prog G34 := GS.addX gs33 (s_sharesAfter mixed gs33 is57 rfl rfl rfl)
theorem is65 : Is Try.prog 65 a_fraction := Is.mk' n_fraction Try.func65 (by kernel_rfl) (by kernel_rfl)
def G35 : Gam := G34.addX 65 c_fraction
theorem gs35 : GS Try.prog G35 := GS.addX gs34 (s_fraction mixed gs34 is65)
theorem is45 : Is Try.prog 45 (a_ChancesAfter 57 65) := Is.mk' n_ChancesAfter Try.func45 (by kernel_rfl) (by kernel_rfl)
def G36 : Gam := G35.addX 45 c_ChancesAfter
theorem gs36 : GS Try.prog G36 := GS.addX gs35 (s_ChancesAfter mixed gs35 is45 rfl rfl)
theorem is21 : Is Try.prog 21 a_eqIntA2 := Is.mk' n_eqIntA2 Try.func21 (by kernel_rfl) (by kernel_rfl)
def G37 : Gam := G36.addX 21 c_eqIntA2
theorem gs37 : GS Try.prog G37 := GS.addX gs36 (s_eqIntA2 mixed gs36 is21)
theorem is46 : Is Try.prog 46 (a_eqIntA2S 21) := Is.mk' n_eqIntA2S Try.func46 (by kernel_rfl) (by kernel_rfl)
def G38 : Gam := G37.addX 46 c_eqIntA2S
theorem gs38 : GS Try.prog G38 := GS.addX gs37 (s_eqIntA2S mixed gs37 is46 rfl)
theorem is58 : Is Try.prog 58 a_eqAsked := Is.mk' n_eqAsked Try.func58 (by kernel_rfl) (by kernel_rfl)
def G39 : Gam := G38.addX 58 c_eqAsked
theorem gs39 : GS Try.prog G39 := GS.addX gs38 (s_eqAsked mixed gs38 is58)
theorem is16 : Is Try.prog 16 (a_eqAskedS 58) := Is.mk' n_eqAskedS Try.func16 (by kernel_rfl) (by kernel_rfl)
def G40 : Gam := G39.addX 16 c_eqAskedS
theorem gs40 : GS Try.prog G40 := GS.addX gs39 (s_eqAskedS mixed gs39 is16 rfl)
theorem is47 : Is Try.prog 47 a_markAskedS := Is.mk' n_markAskedS Try.func47 (by kernel_rfl) (by kernel_rfl)
def G41 : Gam := G40.addX 47 c_markAskedS
theorem gs41 : GS Try.prog G41 := GS.addX gs40 (s_markAskedS mixed gs40 is47)
theorem is48 : Is Try.prog 48 a_markIntA2S := Is.mk' n_markIntA2S Try.func48 (by kernel_rfl) (by kernel_rfl)
def G42 : Gam := G41.addX 48 c_markIntA2S
theorem gs42 : GS Try.prog G42 := GS.addX gs41 (s_markIntA2S mixed gs41 is48)
theorem is49 : Is Try.prog 49 a_heldIntA2S := Is.mk' n_heldIntA2S Try.func49 (by kernel_rfl) (by kernel_rfl)
def G43 : Gam := G42.addX 49 c_heldIntA2S
theorem gs43 : GS Try.prog G43 := GS.addX gs42 (s_heldIntA2S mixed gs42 is49)
theorem is8 : Is Try.prog 8 (a_x_ChancesAfter 11 13 14 44 45 46 16 47 48 49) := Is.mk' n_x_ChancesAfter Try.func8 (by kernel_rfl) (by kernel_rfl)
theorem law : Says Try.prog 8 c_x_ChancesAfter := s_x_ChancesAfter mixed gs43 is8 rfl rfl rfl rfl rfl rfl rfl rfl rfl rfl
theorem own : ownKnob Try.prog.godebug = none := by kernel_rfl
theorem laidOut : laidOutB Try.prog = true := by kernel_rfl
set_option maxRecDepth 100000 in
theorem lifted (os : Os) (started : os.Started) (H : Type) (enc : TypeId × Value → H) :
    ReturnsInHanded {} Try.checked os 8 .any (Rows.fnExactChancesAfterSpec.pre6 enc Try.prog Try.f8 Rows.fnExactChancesAfterRow.domain false) (Rows.fnExactChancesAfterSpec.post enc Try.prog Try.f8 false true false false) := by
  refine returnsInHanded_of_change (C := Try.checked) own started (by kernel_rfl) Try.func8
    (ChangeSpec.witness6 (enc := enc) (C := Try.checked) false ⟨#[], #[.int .i64 0, .slice none 0 0, .agg #[.int .i64 0, .int .i64 0]], []⟩ 8 (by kernel_rfl) (by kernel_rfl) (by kernel_rfl) (by kernel_rfl)) ?_
  intro W base args ds gs before hval0 hW _ _
  have hval : ∀ (j : Nat) t v, Try.f8.params[j]? = some t → args[j]? = some v → Value.okWide Try.prog W .any base t v := hval0
  obtain ⟨p, q, hA0, hV, _, _, _⟩ := id hW
  have hA : DataW.TrodAll enc Try.prog W 0 (fun _ => true) true Try.f8.params.toList args.toList ds p := hA0
  rw [Try.params8] at hA hval
  obtain ⟨v0, v1, v2, d0, d1, d2, p0, p1, p2, rfl, rfl, rfl, h0, h1, h2⟩ := trodAll_three hA
  obtain ⟨n0, rg0, hp0⟩ := open_int' Try.underlying3 (hval 0 3 v0 rfl rfl)
  obtain ⟨pv1, l1, sl1, le1, hp1⟩ := open_asksV Try.underlying22 Try.underlying71 Try.underlying3 Try.underlying4 ⟨rfl, rfl, by kernel_rfl, by kernel_rfl⟩ (by kernel_rfl) (hval 1 22 v1 rfl rfl) h1
  obtain ⟨a2, b2, rg2, hp2⟩ := open_two' Try.underlying24 (by kernel_rfl) (by kernel_rfl) Try.underlying3 Try.underlying3 (hval 2 24 v2 rfl rfl) h2
  have hcon : c_x_ChancesAfter ([.int .i64 n0, pv1, .agg [.int .i64 a2, .int .i64 b2]].map .p) [] = some (.p (.bool true), [], []) := by simp [c_x_ChancesAfter, pure', sl1, le1, rg2]
  refine (calls_true (args := [.int .i64 n0, pv1, .agg [.int .i64 a2, .int .i64 b2]]) (law _ _ _ _ _ hcon) rfl fun i hi => ?_).mono fun e W' ⟨he, hb⟩ => ⟨_, he, post_true hW rfl (fun l hl => ?_) laidOut (by kernel_rfl) (by kernel_rfl) Try.underlying4 hb⟩
  · match i, hi with
    | 0, _ => exact hp0
    | 1, _ => exact hp1
    | 2, _ => exact hp2
  · rw [Try.params8] at hl
    match l, hl with
    | [_, _, _], _ => rfl

theorem fnExactChancesAfter_holds : Rows.FnExactChancesAfterSaid :=
  OpenClaim.holds_of_wide 8 Try.f8 rfl rfl rfl rfl rfl rfl rfl ⟨rfl, rfl, rfl, rfl, rfl⟩ rfl rfl rfl rfl rfl (by kernel_rfl) Try.func8 (by kernel_rfl)
    (of_decide_eq_true (by kernel_rfl)) (by unfold Func.isWrapper; rw [if_neg (by decide +kernel)]; exact ⟨rfl, rfl⟩)
    (fun os started H enc _ => lifted os started H enc)
#print axioms fnExactChancesAfter_holds
end Go.Proofs.Ytmbljmolegalhaa
