/- FOR EVERY INPUT THE LAW 'FnExactSameOneWay' RETURNS TRUE, AND THE INPUT READS AS IT DID. No condition beyond the row's own. -/
import Derived.Test.YticidepkeffkhaaChecked
import Derived.Test.YticidepkeffkhaaRows
import Derived.Test.YticidepkeffkhaaLA
import Derived.Test.YticidepkeffkhaaLB
import Derived.Test.YticidepkeffkhaaLC
import Derived.Test.YticidepkeffkhaaLD
import Derived.Test.YticidepkeffkhaaLE
import Derived.Test.YticidepkeffkhaaLF
import Derived.Test.YticidepkeffkhaaLG
import Derived.Test.YticidepkeffkhaaLH
set_option linter.unusedVariables false
set_option linter.unusedSimpArgs false
namespace Go.Proofs.Yticidepkeffkhaa
open Go Go.Proofs Go.Proofs.Yticidepkeffkhaa.Pam Go.ChangeShapes Go.WideShapes Go.ChangeAt Go.RowKit Go.Joins
theorem mixed : Try.prog.follows .mixedOrders = true := by kernel_rfl
def G0 : Gam := Gam.none
theorem gs0 : GS Try.prog G0 := GS.none
theorem is24 : Is Try.prog 24 a_szAskedS := Is.mk' n_szAskedS Try.func24 (by kernel_rfl) (by kernel_rfl)
def G1 : Gam := G0.addX 24 c_szAskedS
theorem gs1 : GS Try.prog G1 := GS.addX gs0 (s_szAskedS mixed gs0 is24)
theorem is16 : Is Try.prog 16 a_toAsked := Is.mk' n_toAsked Try.func16 (by kernel_rfl) (by kernel_rfl)
def G2 : Gam := G1.addX 16 c_toAsked
theorem gs2 : GS Try.prog G2 := GS.addX gs1 (s_toAsked mixed gs1 is16)
theorem is26 : Is Try.prog 26 (a_toAskedS 16) := Is.mk' n_toAskedS Try.func26 (by kernel_rfl) (by kernel_rfl)
def G3 : Gam := G2.addX 26 c_toAskedS
theorem gs3 : GS Try.prog G3 := GS.addX gs2 (s_toAskedS mixed gs2 is26 rfl)
theorem is47 : Is Try.prog 47 a_l1In := Is.mk' n_l1In Try.func47 (by kernel_rfl) (by kernel_rfl)
def G4 : Gam := G3.addX 47 c_in
theorem gs4 : GS Try.prog G4 := GS.addX gs3 (s_l1In mixed gs3 is47)
theorem is71 : Is Try.prog 71 (a_l2Numbers 47) := Is.mk' n_l2Numbers Try.func71 (by kernel_rfl) (by kernel_rfl)
def G5 : Gam := G4.addX 71 c_isCount
theorem gs5 : GS Try.prog G5 := GS.addX gs4 (s_l2Numbers mixed gs4 is71 rfl)
theorem is60 : Is Try.prog 60 (a_l2Asks 71 47) := Is.mk' n_l2Asks Try.func60 (by kernel_rfl) (by kernel_rfl)
def G6 : Gam := G5.addX 60 c_isQuestion
theorem gs6 : GS Try.prog G6 := GS.addX gs5 (s_l2Asks mixed gs5 is60 rfl rfl)
theorem is46 : Is Try.prog 46 (a_l2Answers 60 71) := Is.mk' n_l2Answers Try.func46 (by kernel_rfl) (by kernel_rfl)
def G7 : Gam := G6.addX 46 c_l2Answers
theorem gs7 : GS Try.prog G7 := GS.addX gs6 (s_l2Answers mixed gs6 is46 rfl rfl)
theorem is72 : Is Try.prog 72 a_start := Is.mk' n_start Try.func72 (by kernel_rfl) (by kernel_rfl)
def G8 : Gam := G7.addX 72 c_start
theorem gs8 : GS Try.prog G8 := GS.addX gs7 (s_start mixed gs7 is72)
theorem is62 : Is Try.prog 62 a_l1Own := Is.mk' n_l1Own Try.func62 (by kernel_rfl) (by kernel_rfl)
def G9 : Gam := G8.addX 62 c_Clone
theorem gs9 : GS Try.prog G9 := GS.addX gs8 (s_l1Own mixed gs8 is62)
theorem is76 : Is Try.prog 76 a_l2False := Is.mk' n_l2False Try.func76 (by kernel_rfl) (by kernel_rfl)
def G10 : Gam := G9.addX 76 c_l2False
theorem gs10 : GS Try.prog G10 := GS.addX gs9 (s_l2False mixed gs9 is76)
theorem is61 : Is Try.prog 61 (a_l2After 62 76) := Is.mk' n_l2After Try.func61 (by kernel_rfl) (by kernel_rfl)
def G11 : Gam := G10.addX 61 c_l2After
theorem gs11 : GS Try.prog G11 := GS.addX gs10 (s_l2After mixed gs10 is61 rfl rfl)
theorem is38 : Is Try.prog 38 (a_l10After 61 62) := Is.mk' n_l10After Try.func38 (by kernel_rfl) (by kernel_rfl)
def G12 : Gam := G11.addX 38 c_l10After
theorem gs12 : GS Try.prog G12 := GS.addX gs11 (s_l10After mixed gs11 is38 rfl rfl)
theorem is49 : Is Try.prog 49 (a_l10All 72 38) := Is.mk' n_l10All Try.func49 (by kernel_rfl) (by kernel_rfl)
def G13 : Gam := G12.addX 49 c_l10All
theorem gs13 : GS Try.prog G13 := GS.addX gs12 (s_l10All mixed gs12 is49 rfl rfl)
theorem is50 : Is Try.prog 50 (a_l2All 72 61) := Is.mk' n_l2All Try.func50 (by kernel_rfl) (by kernel_rfl)
def G14 : Gam := G13.addX 50 c_l2All
theorem gs14 : GS Try.prog G14 := GS.addX gs13 (s_l2All mixed gs13 is50 rfl rfl)
theorem is48 : Is Try.prog 48 a_eqIntS := Is.mk' n_eqIntS Try.func48 (by kernel_rfl) (by kernel_rfl)
def G15 : Gam := G14.addX 48 c_eqIntS
theorem gs15 : GS Try.prog G15 := GS.addX gs14 (s_eqIntS mixed gs14 is48)
theorem is25 : Is Try.prog 25 (a_s_SameOneWay 46 47 49 50 48) := Is.mk' n_s_SameOneWay Try.func25 (by kernel_rfl) (by kernel_rfl)
def G16 : Gam := G15.addX 25 c_s_SameOneWay
theorem gs16 : GS Try.prog G16 := GS.addX gs15 (s_s_SameOneWay mixed gs15 is25 rfl rfl rfl rfl rfl)
theorem is59 : Is Try.prog 59 a_in := Is.mk' n_in Try.func59 (by kernel_rfl) (by kernel_rfl)
def G17 : Gam := G16.addX 59 c_in
theorem gs17 : GS Try.prog G17 := GS.addX gs16 (s_in mixed gs16 is59)
theorem is56 : Is Try.prog 56 (a_isCount 59) := Is.mk' n_isCount Try.func56 (by kernel_rfl) (by kernel_rfl)
def G18 : Gam := G17.addX 56 c_isCount
theorem gs18 : GS Try.prog G18 := GS.addX gs17 (s_isCount mixed gs17 is56 rfl)
theorem is39 : Is Try.prog 39 (a_isQuestion 56 59) := Is.mk' n_isQuestion Try.func39 (by kernel_rfl) (by kernel_rfl)
def G19 : Gam := G18.addX 39 c_isQuestion
theorem gs19 : GS Try.prog G19 := GS.addX gs18 (s_isQuestion mixed gs18 is39 rfl rfl)
theorem is74 : Is Try.prog 74 (a_areAsked1 39) := Is.mk' n_areAsked1 Try.func74 (by kernel_rfl) (by kernel_rfl)
def G20 : Gam := G19.addX 74 c_areAsked1
theorem gs20 : GS Try.prog G20 := GS.addX gs19 (s_areAsked1 mixed gs19 is74 rfl)
theorem is84 : Is Try.prog 84 a_IndexFuncA := Is.mk' n_IndexFuncA Try.func84 (by kernel_rfl) (by kernel_rfl)
def G21 : Gam := G20.addX 84 (c_IndexFuncA G20)
theorem gs21 : GS Try.prog G21 := GS.addX gs20 (s_IndexFuncA mixed gs20 is84)
theorem is73 : Is Try.prog 73 (a_ContainsFuncA 84) := Is.mk' n_ContainsFuncA Try.func73 (by kernel_rfl) (by kernel_rfl)
def G22 : Gam := G21.addX 73 (c_ContainsFuncA G20)
theorem gs22 : GS Try.prog G22 := GS.addX gs21 (s_ContainsFuncA (Γ0 := G20) mixed gs21 is73 rfl)
theorem is53 : Is Try.prog 53 (a_areAsked 56 74 73) := Is.mk' n_areAsked Try.func53 (by kernel_rfl) (by kernel_rfl)
def G23 : Gam := G22.addX 53 c_areAsked
theorem gs23 : GS Try.prog G23 := GS.addX gs22 (s_areAsked (Γ0 := G20) mixed gs22 is53 rfl rfl rfl)
theorem is54 : Is Try.prog 54 (a_isMost 59) := Is.mk' n_isMost Try.func54 (by kernel_rfl) (by kernel_rfl)
def G24 : Gam := G23.addX 54 c_isMost
theorem gs24 : GS Try.prog G24 := GS.addX gs23 (s_isMost mixed gs23 is54 rfl)
theorem is55 : Is Try.prog 55 a_start := Is.mk' n_start Try.func55 (by kernel_rfl) (by kernel_rfl)
def G25 : Gam := G24.addX 55 c_start
theorem gs25 : GS Try.prog G25 := GS.addX gs24 (s_start mixed gs24 is55)
theorem is66 : Is Try.prog 66 a_has := Is.mk' n_has Try.func66 (by kernel_rfl) (by kernel_rfl)
def G26 : Gam := G25.addX 66 c_has
theorem gs26 : GS Try.prog G26 := GS.addX gs25 (s_has mixed gs25 is66)
theorem is77 : Is Try.prog 77 (a_isFalse 66) := Is.mk' n_isFalse Try.func77 (by kernel_rfl) (by kernel_rfl)
def G27 : Gam := G26.addX 77 c_isFalse
theorem gs27 : GS Try.prog G27 := GS.addX gs26 (s_isFalse mixed gs26 is77 rfl)
theorem is78 : Is Try.prog 78 a_Clone := Is.mk' n_Clone Try.func78 (by kernel_rfl) (by kernel_rfl)
def G28 : Gam := G27.addX 78 c_Clone
theorem gs28 : GS Try.prog G28 := GS.addX gs27 (s_Clone mixed gs27 is78)
theorem is65 : Is Try.prog 65 a_answeredOneWay1 := Is.mk' n_answeredOneWay1 Try.func65 (by kernel_rfl) (by kernel_rfl)
def G29 : Gam := G28.addX 65 c_no
theorem gs29 : GS Try.prog G29 := GS.addX gs28 (s_answeredOneWay1 mixed gs28 is65)
theorem is64 : Is Try.prog 64 (a_after 78) := Is.mk' n_after Try.func64 (by kernel_rfl) (by kernel_rfl)
def G30 : Gam := G29.addX 64 (c_after G29)
theorem gs30 : GS Try.prog G30 := GS.addX gs29 (s_after mixed gs29 is64 rfl)
theorem is63 : Is Try.prog 63 (a_answered 77 64) := Is.mk' n_answered Try.func63 (by kernel_rfl) (by kernel_rfl)
def G31 : Gam := G30.addX 63 c_answered
theorem gs31 : GS Try.prog G31 := GS.addX gs30 (s_answered (Γ0 := G29) mixed gs30 is63 rfl rfl)
theorem is40 : Is Try.prog 40 (a_answeredOneWay 63 64 65 66) := Is.mk' n_answeredOneWay Try.func40 (by kernel_rfl) (by kernel_rfl)
def G32 : Gam := G31.addX 40 c_answeredOneWay
theorem gs32 : GS Try.prog G32 := GS.addX gs31 (s_answeredOneWay (Γ0 := G29) mixed gs31 is40 rfl rfl rfl rfl)
theorem is30 : Is Try.prog 30 (a_OneWayAll 53 54 55 40) := Is.mk' n_OneWayAll Try.func30 (by kernel_rfl) (by kernel_rfl)
def G33 : Gam := G32.addX 30 c_OneWayAll
theorem gs33 : GS Try.prog G33 := GS.addX gs32 (s_OneWayAll mixed gs32 is30 rfl rfl rfl rfl)
theorem is51 : Is Try.prog 51 (a_AnswerAll 53 54 55 63) := Is.mk' n_AnswerAll Try.func51 (by kernel_rfl) (by kernel_rfl)
def G34 : Gam := G33.addX 51 c_AnswerAll
theorem gs34 : GS Try.prog G34 := GS.addX gs33 (s_AnswerAll mixed gs33 is51 rfl rfl rfl rfl)
theorem is27 : Is Try.prog 27 (a_SameOneWay 30 51) := Is.mk' n_SameOneWay Try.func27 (by kernel_rfl) (by kernel_rfl)
def G35 : Gam := G34.addX 27 c_SameOneWay
theorem gs35 : GS Try.prog G35 := GS.addX gs34 (s_SameOneWay mixed gs34 is27 rfl rfl)
theorem is52 : Is Try.prog 52 a_eqAsked := Is.mk' n_eqAsked Try.func52 (by kernel_rfl) (by kernel_rfl)
def G36 : Gam := G35.addX 52 c_eqAsked
theorem gs36 : GS Try.prog G36 := GS.addX gs35 (s_eqAsked mixed gs35 is52)
theorem is28 : Is Try.prog 28 (a_eqAskedS 52) := Is.mk' n_eqAskedS Try.func28 (by kernel_rfl) (by kernel_rfl)
def G37 : Gam := G36.addX 28 c_eqAskedS
theorem gs37 : GS Try.prog G37 := GS.addX gs36 (s_eqAskedS mixed gs36 is28 rfl)
theorem is6 : Is Try.prog 6 (a_x_SameOneWay 24 26 25 27 28) := Is.mk' n_x_SameOneWay Try.func6 (by kernel_rfl) (by kernel_rfl)
theorem law : Says Try.prog 6 c_x_SameOneWay := s_x_SameOneWay mixed gs37 is6 rfl rfl rfl rfl rfl
theorem own : ownKnob Try.prog.godebug = none := by kernel_rfl
theorem laidOut : laidOutB Try.prog = true := by kernel_rfl
set_option maxRecDepth 100000 in
theorem lifted (os : Os) (started : os.Started) (H : Type) (enc : TypeId × Value → H) :
    ReturnsInHanded {} Try.checked os 6 .any (Rows.fnExactSameOneWaySpec.pre6 enc Try.prog Try.f6 Rows.fnExactSameOneWayRow.domain false) (Rows.fnExactSameOneWaySpec.post enc Try.prog Try.f6 false true false false) := by
  refine returnsInHanded_of_change (C := Try.checked) own started (by kernel_rfl) Try.func6
    (ChangeSpec.witness6 (enc := enc) (C := Try.checked) false ⟨#[], #[.int .i64 0, .int .i64 0, .slice none 0 0], []⟩ 8 (by kernel_rfl) (by kernel_rfl) (by kernel_rfl) (by kernel_rfl)) ?_
  intro W base args ds gs before hval0 hW _ _
  have hval : ∀ (j : Nat) t v, Try.f6.params[j]? = some t → args[j]? = some v → Value.okWide Try.prog W .any base t v := hval0
  obtain ⟨p, q, hA0, hV, _, _, _⟩ := id hW
  have hA : DataW.TrodAll enc Try.prog W 0 (fun _ => true) true Try.f6.params.toList args.toList ds p := hA0
  rw [Try.params6] at hA hval
  obtain ⟨v0, v1, v2, d0, d1, d2, p0, p1, p2, rfl, rfl, rfl, h0, h1, h2⟩ := trodAll_three hA
  obtain ⟨n0, rg0, hp0⟩ := open_int' Try.underlying3 (hval 0 3 v0 rfl rfl)
  obtain ⟨n1, rg1, hp1⟩ := open_int' Try.underlying3 (hval 1 3 v1 rfl rfl)
  obtain ⟨pv2, l2, sl2, le2, hp2⟩ := open_asksV Try.underlying45 Try.underlying35 Try.underlying3 Try.underlying4 ⟨rfl, rfl, by kernel_rfl, by kernel_rfl⟩ (by kernel_rfl) (hval 2 45 v2 rfl rfl) h2
  have hcon : c_x_SameOneWay ([.int .i64 n0, .int .i64 n1, pv2].map .p) [] = some (.p (.bool true), [], []) := by simp [c_x_SameOneWay, pure', sl2, le2]
  refine (calls_true (args := [.int .i64 n0, .int .i64 n1, pv2]) (law _ _ _ _ _ hcon) rfl fun i hi => ?_).mono fun e W' ⟨he, hb⟩ => ⟨_, he, post_true hW rfl (fun l hl => ?_) laidOut (by kernel_rfl) (by kernel_rfl) Try.underlying4 hb⟩
  · match i, hi with
    | 0, _ => exact hp0
    | 1, _ => exact hp1
    | 2, _ => exact hp2
  · rw [Try.params6] at hl
    match l, hl with
    | [_, _, _], _ => rfl

theorem fnExactSameOneWay_holds : Rows.FnExactSameOneWaySaid :=
  OpenClaim.holds_of_wide 6 Try.f6 rfl rfl rfl rfl rfl rfl rfl ⟨rfl, rfl, rfl, rfl, rfl⟩ rfl rfl rfl rfl rfl (by kernel_rfl) Try.func6 (by kernel_rfl)
    (of_decide_eq_true (by kernel_rfl)) (by unfold Func.isWrapper; rw [if_neg (by decide +kernel)]; exact ⟨rfl, rfl⟩)
    (fun os started H enc _ => lifted os started H enc)
#print axioms fnExactSameOneWay_holds
end Go.Proofs.Yticidepkeffkhaa
