/- FOR EVERY INPUT THE LAW 'FnExactChanceYes' RETURNS TRUE, AND THE INPUT READS AS IT DID. No condition beyond the row's own. -/
import Derived.Test.YtmbljmolegalhaaChecked
import Derived.Test.YtmbljmolegalhaaRows
import Derived.Test.YtmbljmolegalhaaGbLS
set_option linter.unusedVariables false
set_option linter.unusedSimpArgs false
namespace Go.Proofs.Ytmbljmolegalhaa
open Go Go.Proofs Go.Proofs.Ytmbljmolegalhaa.Pam Go.ChangeShapes Go.WideShapes Go.ChangeAt Go.RowKit Go.Joins
theorem mixed : Try.prog.follows .mixedOrders = true := by kernel_rfl
def G0 : Gam := Gam.none
theorem gs0 : GS Try.prog G0 := GS.none
theorem is11 : Is Try.prog 11 a_szAskedS := Is.mk' n_szAskedS Try.func11 (by kernel_rfl) (by kernel_rfl)
def G1 : Gam := G0.addX 11 c_szAskedS
theorem gs1 : GS Try.prog G1 := GS.addX gs0 (s_szAskedS mixed gs0 is11)
theorem is56 : Is Try.prog 56 a_toAsked := Is.mk' n_toAsked Try.func56 (by kernel_rfl) (by kernel_rfl)
def G2 : Gam := G1.addX 56 c_toAsked
theorem gs2 : GS Try.prog G2 := GS.addX gs1 (s_toAsked mixed gs1 is56)
theorem is13 : Is Try.prog 13 (a_toAskedS 56) := Is.mk' n_toAskedS Try.func13 (by kernel_rfl) (by kernel_rfl)
def G3 : Gam := G2.addX 13 c_toAskedS
theorem gs3 : GS Try.prog G3 := GS.addX gs2 (s_toAskedS mixed gs2 is13 rfl)
theorem is14 : Is Try.prog 14 a_toDoubt := Is.mk' n_toDoubt Try.func14 (by kernel_rfl) (by kernel_rfl)
def G4 : Gam := G3.addX 14 c_toDoubt
theorem gs4 : GS Try.prog G4 := GS.addX gs3 (s_toDoubt mixed gs3 is14)
theorem is102 : Is Try.prog 102 a_l1In := Is.mk' n_l1In Try.func102 (by kernel_rfl) (by kernel_rfl)
def G5 : Gam := G4.addX 102 c_in
theorem gs5 : GS Try.prog G5 := GS.addX gs4 (s_l1In mixed gs4 is102)
theorem is101 : Is Try.prog 101 (a_l2Numbers 102) := Is.mk' n_l2Numbers Try.func101 (by kernel_rfl) (by kernel_rfl)
def G6 : Gam := G5.addX 101 c_isCount
theorem gs6 : GS Try.prog G6 := GS.addX gs5 (s_l2Numbers mixed gs5 is101 rfl)
theorem is62 : Is Try.prog 62 (a_l2Asks 101 102) := Is.mk' n_l2Asks Try.func62 (by kernel_rfl) (by kernel_rfl)
def G7 : Gam := G6.addX 62 c_isQuestion
theorem gs7 : GS Try.prog G7 := GS.addX gs6 (s_l2Asks mixed gs6 is62 rfl rfl)
theorem is96 : Is Try.prog 96 (a_l2Answers 62 101) := Is.mk' n_l2Answers Try.func96 (by kernel_rfl) (by kernel_rfl)
def G8 : Gam := G7.addX 96 c_l2Answers
theorem gs8 : GS Try.prog G8 := GS.addX gs7 (s_l2Answers mixed gs7 is96 rfl rfl)
theorem is83 : Is Try.prog 83 (a_l7Good 102) := Is.mk' n_l7Good Try.func83 (by kernel_rfl) (by kernel_rfl)
def G9 : Gam := G8.addX 83 c_IsDoubt
theorem gs9 : GS Try.prog G9 := GS.addX gs8 (s_l7Good mixed gs8 is83 rfl)
theorem is54 : Is Try.prog 54 (a_l7Answers 96 83) := Is.mk' n_l7Answers Try.func54 (by kernel_rfl) (by kernel_rfl)
def G10 : Gam := G9.addX 54 c_l7Answers
theorem gs10 : GS Try.prog G10 := GS.addX gs9 (s_l7Answers mixed gs9 is54 rfl rfl)
theorem is119 : Is Try.prog 119 a_l2False := Is.mk' n_l2False Try.func119 (by kernel_rfl) (by kernel_rfl)
def G11 : Gam := G10.addX 119 c_l2False
theorem gs11 : GS Try.prog G11 := GS.addX gs10 (s_l2False mixed gs10 is119)
theorem is97 : Is Try.prog 97 (a_l2Many 119) := Is.mk' n_l2Many Try.func97 (by kernel_rfl) (by kernel_rfl)
def G12 : Gam := G11.addX 97 c_falseFor
theorem gs12 : GS Try.prog G12 := GS.addX gs11 (s_l2Many mixed gs11 is97 rfl)
theorem is75 : Is Try.prog 75 a_l7Power := Is.mk' n_l7Power Try.func75 (by kernel_rfl) (by kernel_rfl)
def G13 : Gam := G12.addX 75 c_power
theorem gs13 : GS Try.prog G13 := GS.addX gs12 (s_l7Power mixed gs12 is75)
theorem is74 : Is Try.prog 74 (a_l7Parts 75) := Is.mk' n_l7Parts Try.func74 (by kernel_rfl) (by kernel_rfl)
def G14 : Gam := G13.addX 74 c_l7Parts
theorem gs14 : GS Try.prog G14 := GS.addX gs13 (s_l7Parts mixed gs13 is74 rfl)
theorem is55 : Is Try.prog 55 (a_l7After 97 74) := Is.mk' n_l7After Try.func55 (by kernel_rfl) (by kernel_rfl)
def G15 : Gam := G14.addX 55 c_shares
theorem gs15 : GS Try.prog G15 := GS.addX gs14 (s_l7After mixed gs14 is55 rfl rfl)
theorem is59 : Is Try.prog 59 a_l7In := Is.mk' n_l7In Try.func59 (by kernel_rfl) (by kernel_rfl)
def G16 : Gam := G15.addX 59 c_within
theorem gs16 : GS Try.prog G16 := GS.addX gs15 (s_l7In mixed gs15 is59)
theorem is60 : Is Try.prog 60 a_l1Most := Is.mk' n_l1Most Try.func60 (by kernel_rfl) (by kernel_rfl)
def G17 : Gam := G16.addX 60 c_l1Most
theorem gs17 : GS Try.prog G17 := GS.addX gs16 (s_l1Most mixed gs16 is60)
theorem is63 : Is Try.prog 63 (a_l7Cut 60) := Is.mk' n_l7Cut Try.func63 (by kernel_rfl) (by kernel_rfl)
def G18 : Gam := G17.addX 63 c_fraction
theorem gs18 : GS Try.prog G18 := GS.addX gs17 (s_l7Cut mixed gs17 is63 rfl)
theorem is19 : Is Try.prog 19 (a_s_ChanceYes 54 62 55 59 63) := Is.mk' n_s_ChanceYes Try.func19 (by kernel_rfl) (by kernel_rfl)
def G19 : Gam := G18.addX 19 c_ChanceYes
theorem gs19 : GS Try.prog G19 := GS.addX gs18 (s_s_ChanceYes mixed gs18 is19 rfl rfl rfl rfl rfl)
theorem is69 : Is Try.prog 69 a_in := Is.mk' n_in Try.func69 (by kernel_rfl) (by kernel_rfl)
def G20 : Gam := G19.addX 69 c_in
theorem gs20 : GS Try.prog G20 := GS.addX gs19 (s_in mixed gs19 is69)
theorem is103 : Is Try.prog 103 (a_isCount 69) := Is.mk' n_isCount Try.func103 (by kernel_rfl) (by kernel_rfl)
def G21 : Gam := G20.addX 103 c_isCount
theorem gs21 : GS Try.prog G21 := GS.addX gs20 (s_isCount mixed gs20 is103 rfl)
theorem is64 : Is Try.prog 64 (a_isQuestion 103 69) := Is.mk' n_isQuestion Try.func64 (by kernel_rfl) (by kernel_rfl)
def G22 : Gam := G21.addX 64 c_isQuestion
theorem gs22 : GS Try.prog G22 := GS.addX gs21 (s_isQuestion mixed gs21 is64 rfl rfl)
theorem is121 : Is Try.prog 121 (a_areAsked1 64) := Is.mk' n_areAsked1 Try.func121 (by kernel_rfl) (by kernel_rfl)
def G23 : Gam := G22.addX 121 c_areAsked1
theorem gs23 : GS Try.prog G23 := GS.addX gs22 (s_areAsked1 mixed gs22 is121 rfl)
theorem is129 : Is Try.prog 129 a_IndexFuncA := Is.mk' n_IndexFuncA Try.func129 (by kernel_rfl) (by kernel_rfl)
def G24 : Gam := G23.addX 129 (c_IndexFuncA G23)
theorem gs24 : GS Try.prog G24 := GS.addX gs23 (s_IndexFuncA mixed gs23 is129)
theorem is120 : Is Try.prog 120 (a_ContainsFuncA 129) := Is.mk' n_ContainsFuncA Try.func120 (by kernel_rfl) (by kernel_rfl)
def G25 : Gam := G24.addX 120 (c_ContainsFuncA G23)
theorem gs25 : GS Try.prog G25 := GS.addX gs24 (s_ContainsFuncA (Γ0 := G23) mixed gs24 is120 rfl)
theorem is98 : Is Try.prog 98 (a_areAsked 103 121 120) := Is.mk' n_areAsked Try.func98 (by kernel_rfl) (by kernel_rfl)
def G26 : Gam := G25.addX 98 c_areAsked
theorem gs26 : GS Try.prog G26 := GS.addX gs25 (s_areAsked (Γ0 := G23) mixed gs25 is98 rfl rfl rfl)
theorem is36 : Is Try.prog 36 (a_IsDoubt 69) := Is.mk' n_IsDoubt Try.func36 (by kernel_rfl) (by kernel_rfl)
def G27 : Gam := G26.addX 36 c_IsDoubt
theorem gs27 : GS Try.prog G27 := GS.addX gs26 (s_IsDoubt mixed gs26 is36 rfl)
theorem is100 : Is Try.prog 100 a_has := Is.mk' n_has Try.func100 (by kernel_rfl) (by kernel_rfl)
def G28 : Gam := G27.addX 100 c_has
theorem gs28 : GS Try.prog G28 := GS.addX gs27 (s_has mixed gs27 is100)
theorem is130 : Is Try.prog 130 (a_isFalse 100) := Is.mk' n_isFalse Try.func130 (by kernel_rfl) (by kernel_rfl)
def G29 : Gam := G28.addX 130 c_isFalse
theorem gs29 : GS Try.prog G29 := GS.addX gs28 (s_isFalse mixed gs28 is130 rfl)
theorem is122 : Is Try.prog 122 (a_falseFor 130) := Is.mk' n_falseFor Try.func122 (by kernel_rfl) (by kernel_rfl)
def G30 : Gam := G29.addX 122 c_falseFor
theorem gs30 : GS Try.prog G30 := GS.addX gs29 (s_falseFor mixed gs29 is122 rfl)
theorem is82 : Is Try.prog 82 a_power := Is.mk' n_power Try.func82 (by kernel_rfl) (by kernel_rfl)
def G31 : Gam := G30.addX 82 c_power
theorem gs31 : GS Try.prog G31 := GS.addX gs30 (s_power mixed gs30 is82)
theorem is89 : Is Try.prog 89 (a_ofThese 82) := Is.mk' n_ofThese Try.func89 (by kernel_rfl) (by kernel_rfl)
def G32 : Gam := G31.addX 89 c_ofThese
theorem gs32 : GS Try.prog G32 := GS.addX gs31 (s_ofThese mixed gs31 is89 rfl)
theorem is123 : Is Try.prog 123 a_sum := Is.mk' n_sum Try.func123 (by kernel_rfl) (by kernel_rfl)
def G33 : Gam := G32.addX 123 c_sum
theorem gs33 : GS Try.prog G33 := GS.addX gs32 (s_sum mixed gs32 is123)
theorem is99 : Is Try.prog 99 (a_shares 122 89 123) := Is.mk' n_shares Try.func99 (by kernel_rfl) (by kernel_rfl)
def G34 : Gam := G33.addX 99 c_shares
theorem gs34 : GS Try.prog G34 := GS.addX gs33 (s_shares mixed gs33 is99 rfl rfl rfl)
theorem is57 : Is Try.prog 57 (a_sharesAfter 98 36 99) := Is.mk' n_sharesAfter Try.func57 (by kernel_rfl) (by kernel_rfl)
def G35 : Gam := G34.addX 57 c_sharesAfter
theorem gs35 : GS Try.prog G35 := GS.addX gs34 (s_sharesAfter mixed gs34 is57 rfl rfl rfl)
theorem is61 : Is Try.prog 61 (a_within 100) := Is.mk' n_within Try.func61 (by kernel_rfl) (by kernel_rfl)
def G36 : Gam := G35.addX 61 c_within
theorem gs36 : GS Try.prog G36 := GS.addX gs35 (s_within mixed gs35 is61 rfl)
theorem is65 : Is Try.prog 65 a_fraction := Is.mk' n_fraction Try.func65 (by kernel_rfl) (by kernel_rfl)
def G37 : Gam := G36.addX 65 c_fraction
theorem gs37 : GS Try.prog G37 := GS.addX gs36 (s_fraction mixed gs36 is65)
theorem is20 : Is Try.prog 20 (a_ChanceYes 57 64 61 65) := Is.mk' n_ChanceYes Try.func20 (by kernel_rfl) (by kernel_rfl)
def G38 : Gam := G37.addX 20 c_ChanceYes
theorem gs38 : GS Try.prog G38 := GS.addX gs37 (s_ChanceYes mixed gs37 is20 rfl rfl rfl rfl)
theorem is21 : Is Try.prog 21 a_eqIntA2 := Is.mk' n_eqIntA2 Try.func21 (by kernel_rfl) (by kernel_rfl)
def G39 : Gam := G38.addX 21 c_eqIntA2
theorem gs39 : GS Try.prog G39 := GS.addX gs38 (s_eqIntA2 mixed gs38 is21)
theorem is58 : Is Try.prog 58 a_eqAsked := Is.mk' n_eqAsked Try.func58 (by kernel_rfl) (by kernel_rfl)
def G40 : Gam := G39.addX 58 c_eqAsked
theorem gs40 : GS Try.prog G40 := GS.addX gs39 (s_eqAsked mixed gs39 is58)
theorem is16 : Is Try.prog 16 (a_eqAskedS 58) := Is.mk' n_eqAskedS Try.func16 (by kernel_rfl) (by kernel_rfl)
def G41 : Gam := G40.addX 16 c_eqAskedS
theorem gs41 : GS Try.prog G41 := GS.addX gs40 (s_eqAskedS mixed gs40 is16 rfl)
theorem is5 : Is Try.prog 5 (a_x_ChanceYes 11 13 14 19 20 21 16) := Is.mk' n_x_ChanceYes Try.func5 (by kernel_rfl) (by kernel_rfl)
theorem law : Says Try.prog 5 c_x_ChanceYes := s_x_ChanceYes mixed gs41 is5 rfl rfl rfl rfl rfl rfl rfl
theorem own : ownKnob Try.prog.godebug = none := by kernel_rfl
theorem laidOut : laidOutB Try.prog = true := by kernel_rfl
set_option maxRecDepth 100000 in
theorem lifted (os : Os) (started : os.Started) (H : Type) (enc : TypeId × Value → H) :
    ReturnsInHanded {} Try.checked os 5 .any (Rows.fnExactChanceYesSpec.pre6 enc Try.prog Try.f5 Rows.fnExactChanceYesRow.domain false) (Rows.fnExactChanceYesSpec.post enc Try.prog Try.f5 false true false false) := by
  refine returnsInHanded_of_change (C := Try.checked) own started (by kernel_rfl) Try.func5
    (ChangeSpec.witness6 (enc := enc) (C := Try.checked) false ⟨#[], #[.int .i64 0, .slice none 0 0, .int .i64 0, .agg #[.int .i64 0, .int .i64 0]], []⟩ 8 (by kernel_rfl) (by kernel_rfl) (by kernel_rfl) (by kernel_rfl)) ?_
  intro W base args ds gs before hval0 hW _ _
  have hval : ∀ (j : Nat) t v, Try.f5.params[j]? = some t → args[j]? = some v → Value.okWide Try.prog W .any base t v := hval0
  obtain ⟨p, q, hA0, hV, _, _, _⟩ := id hW
  have hA : DataW.TrodAll enc Try.prog W 0 (fun _ => true) true Try.f5.params.toList args.toList ds p := hA0
  rw [Try.params5] at hA hval
  obtain ⟨v0, v1, v2, v3, d0, d1, d2, d3, p0, p1, p2, p3, rfl, rfl, rfl, h0, h1, h2, h3⟩ := trodAll_four hA
  obtain ⟨n0, rg0, hp0⟩ := open_int' Try.underlying3 (hval 0 3 v0 rfl rfl)
  obtain ⟨pv1, l1, sl1, le1, hp1⟩ := open_asksV Try.underlying22 Try.underlying71 Try.underlying3 Try.underlying4 ⟨rfl, rfl, by kernel_rfl, by kernel_rfl⟩ (by kernel_rfl) (hval 1 22 v1 rfl rfl) h1
  obtain ⟨n2, rg2, hp2⟩ := open_int' Try.underlying3 (hval 2 3 v2 rfl rfl)
  obtain ⟨a3, b3, rg3, hp3⟩ := open_two' Try.underlying24 (by kernel_rfl) (by kernel_rfl) Try.underlying3 Try.underlying3 (hval 3 24 v3 rfl rfl) h3
  have hcon : c_x_ChanceYes ([.int .i64 n0, pv1, .int .i64 n2, .agg [.int .i64 a3, .int .i64 b3]].map .p) [] = some (.p (.bool true), [], []) := by simp [c_x_ChanceYes, pure', sl1, le1, rg3]
  refine (calls_true (args := [.int .i64 n0, pv1, .int .i64 n2, .agg [.int .i64 a3, .int .i64 b3]]) (law _ _ _ _ _ hcon) rfl fun i hi => ?_).mono fun e W' ⟨he, hb⟩ => ⟨_, he, post_true hW rfl (fun l hl => ?_) laidOut (by kernel_rfl) (by kernel_rfl) Try.underlying4 hb⟩
  · match i, hi with
    | 0, _ => exact hp0
    | 1, _ => exact hp1
    | 2, _ => exact hp2
    | 3, _ => exact hp3
  · rw [Try.params5] at hl
    match l, hl with
    | [_, _, _, _], _ => rfl

theorem fnExactChanceYes_holds : Rows.FnExactChanceYesSaid :=
  OpenClaim.holds_of_wide 5 Try.f5 rfl rfl rfl rfl rfl rfl rfl ⟨rfl, rfl, rfl, rfl, rfl⟩ rfl rfl rfl rfl rfl (by kernel_rfl) Try.func5 (by kernel_rfl)
    (of_decide_eq_true (by kernel_rfl)) (by unfold Func.isWrapper; rw [if_neg (by decide +kernel)]; exact ⟨rfl, rfl⟩)
    (fun os started H enc _ => lifted os started H enc)
#print axioms fnExactChanceYes_holds
end Go.Proofs.Ytmbljmolegalhaa
