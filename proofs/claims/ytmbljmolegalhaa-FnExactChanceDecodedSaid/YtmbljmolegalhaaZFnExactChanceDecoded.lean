/- FOR EVERY INPUT THE LAW 'FnExactChanceDecoded' RETURNS TRUE, AND THE INPUT READS AS IT DID. No condition beyond the row's own. -/
import Derived.Test.YtmbljmolegalhaaChecked
import Derived.Test.YtmbljmolegalhaaRows
import Derived.Test.YtmbljmolegalhaaGeLY
set_option linter.unusedVariables false
set_option linter.unusedSimpArgs false
namespace Go.Proofs.Ytmbljmolegalhaa
open Go Go.Proofs Go.Proofs.Ytmbljmolegalhaa.Pam Go.ChangeShapes Go.WideShapes Go.ChangeAt Go.RowKit Go.Joins
theorem mixed : Try.prog.follows .mixedOrders = true := by kernel_rfl
def G0 : Gam := Gam.none
theorem gs0 : GS Try.prog G0 := GS.none
theorem is41 : Is Try.prog 41 a_toIntS := Is.mk' n_toIntS Try.func41 (by kernel_rfl) (by kernel_rfl)
def G1 : Gam := G0.addX 41 c_toIntS
theorem gs1 : GS Try.prog G1 := GS.addX gs0 (s_toIntS mixed gs0 is41)
theorem is14 : Is Try.prog 14 a_toDoubt := Is.mk' n_toDoubt Try.func14 (by kernel_rfl) (by kernel_rfl)
def G2 : Gam := G1.addX 14 c_toDoubt
theorem gs2 : GS Try.prog G2 := GS.addX gs1 (s_toDoubt mixed gs1 is14)
theorem is102 : Is Try.prog 102 a_l1In := Is.mk' n_l1In Try.func102 (by kernel_rfl) (by kernel_rfl)
def G3 : Gam := G2.addX 102 c_in
theorem gs3 : GS Try.prog G3 := GS.addX gs2 (s_l1In mixed gs2 is102)
theorem is101 : Is Try.prog 101 (a_l2Numbers 102) := Is.mk' n_l2Numbers Try.func101 (by kernel_rfl) (by kernel_rfl)
def G4 : Gam := G3.addX 101 c_isCount
theorem gs4 : GS Try.prog G4 := GS.addX gs3 (s_l2Numbers mixed gs3 is101 rfl)
theorem is62 : Is Try.prog 62 (a_l2Asks 101 102) := Is.mk' n_l2Asks Try.func62 (by kernel_rfl) (by kernel_rfl)
def G5 : Gam := G4.addX 62 c_isQuestion
theorem gs5 : GS Try.prog G5 := GS.addX gs4 (s_l2Asks mixed gs4 is62 rfl rfl)
theorem is106 : Is Try.prog 106 (a_l5Scheme 62 101) := Is.mk' n_l5Scheme Try.func106 (by kernel_rfl) (by kernel_rfl)
def G6 : Gam := G5.addX 106 c_IsScheme
theorem gs6 : GS Try.prog G6 := GS.addX gs5 (s_l5Scheme mixed gs5 is106 rfl rfl)
theorem is83 : Is Try.prog 83 (a_l7Good 102) := Is.mk' n_l7Good Try.func83 (by kernel_rfl) (by kernel_rfl)
def G7 : Gam := G6.addX 83 c_IsDoubt
theorem gs7 : GS Try.prog G7 := GS.addX gs6 (s_l7Good mixed gs6 is83 rfl)
theorem is84 : Is Try.prog 84 (a_l7Scheme 106 83) := Is.mk' n_l7Scheme Try.func84 (by kernel_rfl) (by kernel_rfl)
def G8 : Gam := G7.addX 84 c_isDrawnScheme
theorem gs8 : GS Try.prog G8 := GS.addX gs7 (s_l7Scheme mixed gs7 is84 rfl rfl)
theorem is107 : Is Try.prog 107 a_l5True := Is.mk' n_l5True Try.func107 (by kernel_rfl) (by kernel_rfl)
def G9 : Gam := G8.addX 107 c_trueWord
theorem gs9 : GS Try.prog G9 := GS.addX gs8 (s_l5True mixed gs8 is107)
theorem is85 : Is Try.prog 85 (a_l5Words 107) := Is.mk' n_l5Words Try.func85 (by kernel_rfl) (by kernel_rfl)
def G10 : Gam := G9.addX 85 c_trueWords
theorem gs10 : GS Try.prog G10 := GS.addX gs9 (s_l5Words mixed gs9 is85 rfl)
theorem is108 : Is Try.prog 108 a_l5Apart := Is.mk' n_l5Apart Try.func108 (by kernel_rfl) (by kernel_rfl)
def G11 : Gam := G10.addX 108 c_l5Apart
theorem gs11 : GS Try.prog G11 := GS.addX gs10 (s_l5Apart mixed gs10 is108)
theorem is86 : Is Try.prog 86 (a_l5Near 108) := Is.mk' n_l5Near Try.func86 (by kernel_rfl) (by kernel_rfl)
def G12 : Gam := G11.addX 86 c_l5Near
theorem gs12 : GS Try.prog G12 := GS.addX gs11 (s_l5Near mixed gs11 is86 rfl)
theorem is75 : Is Try.prog 75 a_l7Power := Is.mk' n_l7Power Try.func75 (by kernel_rfl) (by kernel_rfl)
def G13 : Gam := G12.addX 75 c_power
theorem gs13 : GS Try.prog G13 := GS.addX gs12 (s_l7Power mixed gs12 is75)
theorem is74 : Is Try.prog 74 (a_l7Parts 75) := Is.mk' n_l7Parts Try.func74 (by kernel_rfl) (by kernel_rfl)
def G14 : Gam := G13.addX 74 c_l7Parts
theorem gs14 : GS Try.prog G14 := GS.addX gs13 (s_l7Parts mixed gs13 is74 rfl)
theorem is60 : Is Try.prog 60 a_l1Most := Is.mk' n_l1Most Try.func60 (by kernel_rfl) (by kernel_rfl)
def G15 : Gam := G14.addX 60 c_l1Most
theorem gs15 : GS Try.prog G15 := GS.addX gs14 (s_l1Most mixed gs14 is60)
theorem is63 : Is Try.prog 63 (a_l7Cut 60) := Is.mk' n_l7Cut Try.func63 (by kernel_rfl) (by kernel_rfl)
def G16 : Gam := G15.addX 63 c_fraction
theorem gs16 : GS Try.prog G16 := GS.addX gs15 (s_l7Cut mixed gs15 is63 rfl)
theorem is40 : Is Try.prog 40 (a_s_ChanceDecoded 84 85 86 74 75 63) := Is.mk' n_s_ChanceDecoded Try.func40 (by kernel_rfl) (by kernel_rfl)
def G17 : Gam := G16.addX 40 c_ChanceDecoded
theorem gs17 : GS Try.prog G17 := GS.addX gs16 (s_s_ChanceDecoded mixed gs16 is40 rfl rfl rfl rfl rfl rfl)
theorem is69 : Is Try.prog 69 a_in := Is.mk' n_in Try.func69 (by kernel_rfl) (by kernel_rfl)
def G18 : Gam := G17.addX 69 c_in
theorem gs18 : GS Try.prog G18 := GS.addX gs17 (s_in mixed gs17 is69)
theorem is103 : Is Try.prog 103 (a_isCount 69) := Is.mk' n_isCount Try.func103 (by kernel_rfl) (by kernel_rfl)
def G19 : Gam := G18.addX 103 c_isCount
theorem gs19 : GS Try.prog G19 := GS.addX gs18 (s_isCount mixed gs18 is103 rfl)
theorem is64 : Is Try.prog 64 (a_isQuestion 103 69) := Is.mk' n_isQuestion Try.func64 (by kernel_rfl) (by kernel_rfl)
def G20 : Gam := G19.addX 64 c_isQuestion
theorem gs20 : GS Try.prog G20 := GS.addX gs19 (s_isQuestion mixed gs19 is64 rfl rfl)
theorem is118 : Is Try.prog 118 (a_IsScheme1 64) := Is.mk' n_IsScheme1 Try.func118 (by kernel_rfl) (by kernel_rfl)
def G21 : Gam := G20.addX 118 c_IsScheme1
theorem gs21 : GS Try.prog G21 := GS.addX gs20 (s_IsScheme1 mixed gs20 is118 rfl)
theorem is128 : Is Try.prog 128 a_IndexFunc := Is.mk' n_IndexFunc Try.func128 (by kernel_rfl) (by kernel_rfl)
def G22 : Gam := G21.addX 128 (c_IndexFunc G21)
theorem gs22 : GS Try.prog G22 := GS.addX gs21 (s_IndexFunc mixed gs21 is128)
theorem is117 : Is Try.prog 117 (a_ContainsFunc 128) := Is.mk' n_ContainsFunc Try.func117 (by kernel_rfl) (by kernel_rfl)
def G23 : Gam := G22.addX 117 (c_ContainsFunc G21)
theorem gs23 : GS Try.prog G23 := GS.addX gs22 (s_ContainsFunc (Γ0 := G21) mixed gs22 is117 rfl)
theorem is95 : Is Try.prog 95 (a_IsScheme 103 118 117) := Is.mk' n_IsScheme Try.func95 (by kernel_rfl) (by kernel_rfl)
def G24 : Gam := G23.addX 95 c_IsScheme
theorem gs24 : GS Try.prog G24 := GS.addX gs23 (s_IsScheme (Γ0 := G21) mixed gs23 is95 rfl rfl rfl)
theorem is36 : Is Try.prog 36 (a_IsDoubt 69) := Is.mk' n_IsDoubt Try.func36 (by kernel_rfl) (by kernel_rfl)
def G25 : Gam := G24.addX 36 c_IsDoubt
theorem gs25 : GS Try.prog G25 := GS.addX gs24 (s_IsDoubt mixed gs24 is36 rfl)
theorem is87 : Is Try.prog 87 (a_isDrawnScheme 95 36) := Is.mk' n_isDrawnScheme Try.func87 (by kernel_rfl) (by kernel_rfl)
def G26 : Gam := G25.addX 87 c_isDrawnScheme
theorem gs26 : GS Try.prog G26 := GS.addX gs25 (s_isDrawnScheme mixed gs25 is87 rfl rfl)
theorem is100 : Is Try.prog 100 a_has := Is.mk' n_has Try.func100 (by kernel_rfl) (by kernel_rfl)
def G27 : Gam := G26.addX 100 c_has
theorem gs27 : GS Try.prog G27 := GS.addX gs26 (s_has mixed gs26 is100)
theorem is112 : Is Try.prog 112 (a_trueWord 100) := Is.mk' n_trueWord Try.func112 (by kernel_rfl) (by kernel_rfl)
def G28 : Gam := G27.addX 112 c_trueWord
theorem gs28 : GS Try.prog G28 := GS.addX gs27 (s_trueWord mixed gs27 is112 rfl)
theorem is132 : Is Try.prog 132 a_OnesCount64 := Is.mk' n_OnesCount64 Try.func132 (by kernel_rfl) (by kernel_rfl)
def G29 : Gam := G28.addX 132 c_OnesCount64
theorem gs29 : GS Try.prog G29 := GS.addX gs28 (s_OnesCount64 mixed gs28 is132)
theorem is124 : Is Try.prog 124 (a_OnesCount 131 132) := Is.mk' n_OnesCount Try.func124 (by kernel_rfl) (by kernel_rfl)
def G30 : Gam := G29.addX 124 c_OnesCount64
theorem gs30 : GS Try.prog G30 := GS.addX gs29 (s_OnesCount mixed gs29 is124 rfl)
theorem is111 : Is Try.prog 111 (a_apart 124) := Is.mk' n_apart Try.func111 (by kernel_rfl) (by kernel_rfl)
def G31 : Gam := G30.addX 111 c_l5Apart
theorem gs31 : GS Try.prog G31 := GS.addX gs30 (s_apart mixed gs30 is111 rfl)
theorem is110 : Is Try.prog 110 (a_near1 112 111) := Is.mk' n_near1 Try.func110 (by kernel_rfl) (by kernel_rfl)
def G32 : Gam := G31.addX 110 c_near1
theorem gs32 : GS Try.prog G32 := GS.addX gs31 (s_near1 mixed gs31 is110 rfl rfl)
theorem is109 : Is Try.prog 109 a_leastOf := Is.mk' n_leastOf Try.func109 (by kernel_rfl) (by kernel_rfl)
def G33 : Gam := G32.addX 109 (c_leastOf G32)
theorem gs33 : GS Try.prog G33 := GS.addX gs32 (s_leastOf mixed gs32 is109)
theorem is88 : Is Try.prog 88 (a_near 110 109) := Is.mk' n_near Try.func88 (by kernel_rfl) (by kernel_rfl)
def G34 : Gam := G33.addX 88 c_near
theorem gs34 : GS Try.prog G34 := GS.addX gs33 (s_near (Γ0 := G32) mixed gs33 is88 rfl rfl)
theorem is82 : Is Try.prog 82 a_power := Is.mk' n_power Try.func82 (by kernel_rfl) (by kernel_rfl)
def G35 : Gam := G34.addX 82 c_power
theorem gs35 : GS Try.prog G35 := GS.addX gs34 (s_power mixed gs34 is82)
theorem is89 : Is Try.prog 89 (a_ofThese 82) := Is.mk' n_ofThese Try.func89 (by kernel_rfl) (by kernel_rfl)
def G36 : Gam := G35.addX 89 c_ofThese
theorem gs36 : GS Try.prog G36 := GS.addX gs35 (s_ofThese mixed gs35 is89 rfl)
theorem is65 : Is Try.prog 65 a_fraction := Is.mk' n_fraction Try.func65 (by kernel_rfl) (by kernel_rfl)
def G37 : Gam := G36.addX 65 c_fraction
theorem gs37 : GS Try.prog G37 := GS.addX gs36 (s_fraction mixed gs36 is65)
theorem is42 : Is Try.prog 42 (a_ChanceDecoded 87 88 89 82 65) := Is.mk' n_ChanceDecoded Try.func42 (by kernel_rfl) (by kernel_rfl)
def G38 : Gam := G37.addX 42 c_ChanceDecoded
theorem gs38 : GS Try.prog G38 := GS.addX gs37 (s_ChanceDecoded mixed gs37 is42 rfl rfl rfl rfl rfl)
theorem is21 : Is Try.prog 21 a_eqIntA2 := Is.mk' n_eqIntA2 Try.func21 (by kernel_rfl) (by kernel_rfl)
def G39 : Gam := G38.addX 21 c_eqIntA2
theorem gs39 : GS Try.prog G39 := GS.addX gs38 (s_eqIntA2 mixed gs38 is21)
theorem is43 : Is Try.prog 43 a_eqIntS := Is.mk' n_eqIntS Try.func43 (by kernel_rfl) (by kernel_rfl)
def G40 : Gam := G39.addX 43 c_eqIntS
theorem gs40 : GS Try.prog G40 := GS.addX gs39 (s_eqIntS mixed gs39 is43)
theorem is7 : Is Try.prog 7 (a_x_ChanceDecoded 41 14 40 42 21 43) := Is.mk' n_x_ChanceDecoded Try.func7 (by kernel_rfl) (by kernel_rfl)
theorem law : Says Try.prog 7 c_x_ChanceDecoded := s_x_ChanceDecoded mixed gs40 is7 rfl rfl rfl rfl rfl rfl
theorem own : ownKnob Try.prog.godebug = none := by kernel_rfl
theorem laidOut : laidOutB Try.prog = true := by kernel_rfl
set_option maxRecDepth 100000 in
theorem lifted (os : Os) (started : os.Started) (H : Type) (enc : TypeId × Value → H) :
    ReturnsInHanded {} Try.checked os 7 .any (Rows.fnExactChanceDecodedSpec.pre6 enc Try.prog Try.f7 Rows.fnExactChanceDecodedRow.domain false) (Rows.fnExactChanceDecodedSpec.post enc Try.prog Try.f7 false true false false) := by
  refine returnsInHanded_of_change (C := Try.checked) own started (by kernel_rfl) Try.func7
    (ChangeSpec.witness6 (enc := enc) (C := Try.checked) false ⟨#[], #[.int .i64 0, .slice none 0 0, .agg #[.int .i64 0, .int .i64 0]], []⟩ 8 (by kernel_rfl) (by kernel_rfl) (by kernel_rfl) (by kernel_rfl)) ?_
  intro W base args ds gs before hval0 hW _ _
  have hval : ∀ (j : Nat) t v, Try.f7.params[j]? = some t → args[j]? = some v → Value.okWide Try.prog W .any base t v := hval0
  obtain ⟨p, q, hA0, hV, _, _, _⟩ := id hW
  have hA : DataW.TrodAll enc Try.prog W 0 (fun _ => true) true Try.f7.params.toList args.toList ds p := hA0
  rw [Try.params7] at hA hval
  obtain ⟨v0, v1, v2, d0, d1, d2, p0, p1, p2, rfl, rfl, rfl, h0, h1, h2⟩ := trodAll_three hA
  obtain ⟨n0, rg0, hp0⟩ := open_int' Try.underlying3 (hval 0 3 v0 rfl rfl)
  obtain ⟨pv1, l1, sl1, le1, hp1⟩ := open_intsV Try.underlying51 Try.underlying3 (by kernel_rfl) (hval 1 51 v1 rfl rfl) h1
  obtain ⟨a2, b2, rg2, hp2⟩ := open_two' Try.underlying24 (by kernel_rfl) (by kernel_rfl) Try.underlying3 Try.underlying3 (hval 2 24 v2 rfl rfl) h2
  have hcon : c_x_ChanceDecoded ([.int .i64 n0, pv1, .agg [.int .i64 a2, .int .i64 b2]].map .p) [] = some (.p (.bool true), [], []) := by simp [c_x_ChanceDecoded, pure', sl1, le1, rg2]
  refine (calls_true (args := [.int .i64 n0, pv1, .agg [.int .i64 a2, .int .i64 b2]]) (law _ _ _ _ _ hcon) rfl fun i hi => ?_).mono fun e W' ⟨he, hb⟩ => ⟨_, he, post_true hW rfl (fun l hl => ?_) laidOut (by kernel_rfl) (by kernel_rfl) Try.underlying4 hb⟩
  · match i, hi with
    | 0, _ => exact hp0
    | 1, _ => exact hp1
    | 2, _ => exact hp2
  · rw [Try.params7] at hl
    match l, hl with
    | [_, _, _], _ => rfl

theorem fnExactChanceDecoded_holds : Rows.FnExactChanceDecodedSaid :=
  OpenClaim.holds_of_wide 7 Try.f7 rfl rfl rfl rfl rfl rfl rfl ⟨rfl, rfl, rfl, rfl, rfl⟩ rfl rfl rfl rfl rfl (by kernel_rfl) Try.func7 (by kernel_rfl)
    (of_decide_eq_true (by kernel_rfl)) (by unfold Func.isWrapper; rw [if_neg (by decide +kernel)]; exact ⟨rfl, rfl⟩)
    (fun os started H enc _ => lifted os started H enc)
#print axioms fnExactChanceDecoded_holds
end Go.Proofs.Ytmbljmolegalhaa
