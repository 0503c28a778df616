/- FOR EVERY INPUT THE LAW 'FnExactChanceSafe' RETURNS TRUE, AND THE INPUT READS AS IT DID. No condition beyond the row's own. -/
import Derived.Test.YtmbljmolegalhaaChecked
import Derived.Test.YtmbljmolegalhaaRows
import Derived.Test.YtmbljmolegalhaaGdLW
set_option linter.unusedVariables false
set_option linter.unusedSimpArgs false
namespace Go.Proofs.Ytmbljmolegalhaa
open Go Go.Proofs Go.Proofs.Ytmbljmolegalhaa.Pam Go.ChangeShapes Go.WideShapes Go.ChangeAt Go.RowKit Go.Joins
theorem mixed : Try.prog.follows .mixedOrders = true := by kernel_rfl
def G0 : Gam := Gam.none
theorem gs0 : GS Try.prog G0 := GS.none
theorem is41 : Is Try.prog 41 a_toIntS := Is.mk' n_toIntS Try.func41 (by kernel_rfl) (by kernel_rfl)
def G1 : Gam := G0.addX 41 c_toIntS
theorem gs1 : GS Try.prog G1 := GS.addX gs0 (s_toIntS mixed gs0 is41)
theorem is14 : Is Try.prog 14 a_toDoubt := Is.mk' n_toDoubt Try.func14 (by kernel_rfl) (by kernel_rfl)
def G2 : Gam := G1.addX 14 c_toDoubt
theorem gs2 : GS Try.prog G2 := GS.addX gs1 (s_toDoubt mixed gs1 is14)
theorem is102 : Is Try.prog 102 a_l1In := Is.mk' n_l1In Try.func102 (by kernel_rfl) (by kernel_rfl)
def G3 : Gam := G2.addX 102 c_in
theorem gs3 : GS Try.prog G3 := GS.addX gs2 (s_l1In mixed gs2 is102)
theorem is101 : Is Try.prog 101 (a_l2Numbers 102) := Is.mk' n_l2Numbers Try.func101 (by kernel_rfl) (by kernel_rfl)
def G4 : Gam := G3.addX 101 c_isCount
theorem gs4 : GS Try.prog G4 := GS.addX gs3 (s_l2Numbers mixed gs3 is101 rfl)
theorem is62 : Is Try.prog 62 (a_l2Asks 101 102) := Is.mk' n_l2Asks Try.func62 (by kernel_rfl) (by kernel_rfl)
def G5 : Gam := G4.addX 62 c_isQuestion
theorem gs5 : GS Try.prog G5 := GS.addX gs4 (s_l2Asks mixed gs4 is62 rfl rfl)
theorem is106 : Is Try.prog 106 (a_l5Scheme 62 101) := Is.mk' n_l5Scheme Try.func106 (by kernel_rfl) (by kernel_rfl)
def G6 : Gam := G5.addX 106 c_IsScheme
theorem gs6 : GS Try.prog G6 := GS.addX gs5 (s_l5Scheme mixed gs5 is106 rfl rfl)
theorem is83 : Is Try.prog 83 (a_l7Good 102) := Is.mk' n_l7Good Try.func83 (by kernel_rfl) (by kernel_rfl)
def G7 : Gam := G6.addX 83 c_IsDoubt
theorem gs7 : GS Try.prog G7 := GS.addX gs6 (s_l7Good mixed gs6 is83 rfl)
theorem is84 : Is Try.prog 84 (a_l7Scheme 106 83) := Is.mk' n_l7Scheme Try.func84 (by kernel_rfl) (by kernel_rfl)
def G8 : Gam := G7.addX 84 c_isDrawnScheme
theorem gs8 : GS Try.prog G8 := GS.addX gs7 (s_l7Scheme mixed gs7 is84 rfl rfl)
theorem is107 : Is Try.prog 107 a_l5True := Is.mk' n_l5True Try.func107 (by kernel_rfl) (by kernel_rfl)
def G9 : Gam := G8.addX 107 c_trueWord
theorem gs9 : GS Try.prog G9 := GS.addX gs8 (s_l5True mixed gs8 is107)
theorem is85 : Is Try.prog 85 (a_l5Words 107) := Is.mk' n_l5Words Try.func85 (by kernel_rfl) (by kernel_rfl)
def G10 : Gam := G9.addX 85 c_trueWords
theorem gs10 : GS Try.prog G10 := GS.addX gs9 (s_l5Words mixed gs9 is85 rfl)
theorem is108 : Is Try.prog 108 a_l5Apart := Is.mk' n_l5Apart Try.func108 (by kernel_rfl) (by kernel_rfl)
def G11 : Gam := G10.addX 108 c_l5Apart
theorem gs11 : GS Try.prog G11 := GS.addX gs10 (s_l5Apart mixed gs10 is108)
theorem is90 : Is Try.prog 90 (a_l5Gap 108) := Is.mk' n_l5Gap Try.func90 (by kernel_rfl) (by kernel_rfl)
def G12 : Gam := G11.addX 90 c_l5Gap
theorem gs12 : GS Try.prog G12 := GS.addX gs11 (s_l5Gap mixed gs11 is90 rfl)
theorem is73 : Is Try.prog 73 a_l3Ways := Is.mk' n_l3Ways Try.func73 (by kernel_rfl) (by kernel_rfl)
def G13 : Gam := G12.addX 73 c_ways
theorem gs13 : GS Try.prog G13 := GS.addX gs12 (s_l3Ways mixed gs12 is73)
theorem is75 : Is Try.prog 75 a_l7Power := Is.mk' n_l7Power Try.func75 (by kernel_rfl) (by kernel_rfl)
def G14 : Gam := G13.addX 75 c_power
theorem gs14 : GS Try.prog G14 := GS.addX gs13 (s_l7Power mixed gs13 is75)
theorem is74 : Is Try.prog 74 (a_l7Parts 75) := Is.mk' n_l7Parts Try.func74 (by kernel_rfl) (by kernel_rfl)
def G15 : Gam := G14.addX 74 c_l7Parts
theorem gs15 : GS Try.prog G15 := GS.addX gs14 (s_l7Parts mixed gs14 is74 rfl)
theorem is77 : Is Try.prog 77 (a_l7Within 73 74) := Is.mk' n_l7Within Try.func77 (by kernel_rfl) (by kernel_rfl)
def G16 : Gam := G15.addX 77 c_l7Within
theorem gs16 : GS Try.prog G16 := GS.addX gs15 (s_l7Within mixed gs15 is77 rfl rfl)
theorem is60 : Is Try.prog 60 a_l1Most := Is.mk' n_l1Most Try.func60 (by kernel_rfl) (by kernel_rfl)
def G17 : Gam := G16.addX 60 c_l1Most
theorem gs17 : GS Try.prog G17 := GS.addX gs16 (s_l1Most mixed gs16 is60)
theorem is63 : Is Try.prog 63 (a_l7Cut 60) := Is.mk' n_l7Cut Try.func63 (by kernel_rfl) (by kernel_rfl)
def G18 : Gam := G17.addX 63 c_fraction
theorem gs18 : GS Try.prog G18 := GS.addX gs17 (s_l7Cut mixed gs17 is63 rfl)
theorem is50 : Is Try.prog 50 (a_s_ChanceSafe 84 85 90 77 75 63) := Is.mk' n_s_ChanceSafe Try.func50 (by kernel_rfl) (by kernel_rfl)
def G19 : Gam := G18.addX 50 c_ChanceSafe
theorem gs19 : GS Try.prog G19 := GS.addX gs18 (s_s_ChanceSafe mixed gs18 is50 rfl rfl rfl rfl rfl rfl)
theorem is69 : Is Try.prog 69 a_in := Is.mk' n_in Try.func69 (by kernel_rfl) (by kernel_rfl)
def G20 : Gam := G19.addX 69 c_in
theorem gs20 : GS Try.prog G20 := GS.addX gs19 (s_in mixed gs19 is69)
theorem is103 : Is Try.prog 103 (a_isCount 69) := Is.mk' n_isCount Try.func103 (by kernel_rfl) (by kernel_rfl)
def G21 : Gam := G20.addX 103 c_isCount
theorem gs21 : GS Try.prog G21 := GS.addX gs20 (s_isCount mixed gs20 is103 rfl)
theorem is64 : Is Try.prog 64 (a_isQuestion 103 69) := Is.mk' n_isQuestion Try.func64 (by kernel_rfl) (by kernel_rfl)
def G22 : Gam := G21.addX 64 c_isQuestion
theorem gs22 : GS Try.prog G22 := GS.addX gs21 (s_isQuestion mixed gs21 is64 rfl rfl)
theorem is118 : Is Try.prog 118 (a_IsScheme1 64) := Is.mk' n_IsScheme1 Try.func118 (by kernel_rfl) (by kernel_rfl)
def G23 : Gam := G22.addX 118 c_IsScheme1
theorem gs23 : GS Try.prog G23 := GS.addX gs22 (s_IsScheme1 mixed gs22 is118 rfl)
theorem is128 : Is Try.prog 128 a_IndexFunc := Is.mk' n_IndexFunc Try.func128 (by kernel_rfl) (by kernel_rfl)
def G24 : Gam := G23.addX 128 (c_IndexFunc G23)
theorem gs24 : GS Try.prog G24 := GS.addX gs23 (s_IndexFunc mixed gs23 is128)
theorem is117 : Is Try.prog 117 (a_ContainsFunc 128) := Is.mk' n_ContainsFunc Try.func117 (by kernel_rfl) (by kernel_rfl)
def G25 : Gam := G24.addX 117 (c_ContainsFunc G23)
theorem gs25 : GS Try.prog G25 := GS.addX gs24 (s_ContainsFunc (Γ0 := G23) mixed gs24 is117 rfl)
theorem is95 : Is Try.prog 95 (a_IsScheme 103 118 117) := Is.mk' n_IsScheme Try.func95 (by kernel_rfl) (by kernel_rfl)
def G26 : Gam := G25.addX 95 c_IsScheme
theorem gs26 : GS Try.prog G26 := GS.addX gs25 (s_IsScheme (Γ0 := G23) mixed gs25 is95 rfl rfl rfl)
theorem is36 : Is Try.prog 36 (a_IsDoubt 69) := Is.mk' n_IsDoubt Try.func36 (by kernel_rfl) (by kernel_rfl)
def G27 : Gam := G26.addX 36 c_IsDoubt
theorem gs27 : GS Try.prog G27 := GS.addX gs26 (s_IsDoubt mixed gs26 is36 rfl)
theorem is87 : Is Try.prog 87 (a_isDrawnScheme 95 36) := Is.mk' n_isDrawnScheme Try.func87 (by kernel_rfl) (by kernel_rfl)
def G28 : Gam := G27.addX 87 c_isDrawnScheme
theorem gs28 : GS Try.prog G28 := GS.addX gs27 (s_isDrawnScheme mixed gs27 is87 rfl rfl)
theorem is100 : Is Try.prog 100 a_has := Is.mk' n_has Try.func100 (by kernel_rfl) (by kernel_rfl)
def G29 : Gam := G28.addX 100 c_has
theorem gs29 : GS Try.prog G29 := GS.addX gs28 (s_has mixed gs28 is100)
theorem is112 : Is Try.prog 112 (a_trueWord 100) := Is.mk' n_trueWord Try.func112 (by kernel_rfl) (by kernel_rfl)
def G30 : Gam := G29.addX 112 c_trueWord
theorem gs30 : GS Try.prog G30 := GS.addX gs29 (s_trueWord mixed gs29 is112 rfl)
theorem is113 : Is Try.prog 113 (a_trueWords 112) := Is.mk' n_trueWords Try.func113 (by kernel_rfl) (by kernel_rfl)
def G31 : Gam := G30.addX 113 c_trueWords
theorem gs31 : GS Try.prog G31 := GS.addX gs30 (s_trueWords mixed gs30 is113 rfl)
theorem is132 : Is Try.prog 132 a_OnesCount64 := Is.mk' n_OnesCount64 Try.func132 (by kernel_rfl) (by kernel_rfl)
def G32 : Gam := G31.addX 132 c_OnesCount64
theorem gs32 : GS Try.prog G32 := GS.addX gs31 (s_OnesCount64 mixed gs31 is132)
theorem is124 : Is Try.prog 124 (a_OnesCount 131 132) := Is.mk' n_OnesCount Try.func124 (by kernel_rfl) (by kernel_rfl)
def G33 : Gam := G32.addX 124 c_OnesCount64
theorem gs33 : GS Try.prog G33 := GS.addX gs32 (s_OnesCount mixed gs32 is124 rfl)
theorem is111 : Is Try.prog 111 (a_apart 124) := Is.mk' n_apart Try.func111 (by kernel_rfl) (by kernel_rfl)
def G34 : Gam := G33.addX 111 c_l5Apart
theorem gs34 : GS Try.prog G34 := GS.addX gs33 (s_apart mixed gs33 is111 rfl)
theorem is91 : Is Try.prog 91 (a_gap 113 111) := Is.mk' n_gap Try.func91 (by kernel_rfl) (by kernel_rfl)
def G35 : Gam := G34.addX 91 c_gap
theorem gs35 : GS Try.prog G35 := GS.addX gs34 (s_gap mixed gs34 is91 rfl rfl)
theorem is104 : Is Try.prog 104 a_ways := Is.mk' n_ways Try.func104 (by kernel_rfl) (by kernel_rfl)
def G36 : Gam := G35.addX 104 c_ways
theorem gs36 : GS Try.prog G36 := GS.addX gs35 (s_ways mixed gs35 is104)
theorem is82 : Is Try.prog 82 a_power := Is.mk' n_power Try.func82 (by kernel_rfl) (by kernel_rfl)
def G37 : Gam := G36.addX 82 c_power
theorem gs37 : GS Try.prog G37 := GS.addX gs36 (s_power mixed gs36 is82)
theorem is89 : Is Try.prog 89 (a_ofThese 82) := Is.mk' n_ofThese Try.func89 (by kernel_rfl) (by kernel_rfl)
def G38 : Gam := G37.addX 89 c_ofThese
theorem gs38 : GS Try.prog G38 := GS.addX gs37 (s_ofThese mixed gs37 is89 rfl)
theorem is71 : Is Try.prog 71 (a_ofAny 104 89) := Is.mk' n_ofAny Try.func71 (by kernel_rfl) (by kernel_rfl)
def G39 : Gam := G38.addX 71 c_ofAny
theorem gs39 : GS Try.prog G39 := GS.addX gs38 (s_ofAny mixed gs38 is71 rfl rfl)
theorem is76 : Is Try.prog 76 (a_dWithin 71) := Is.mk' n_dWithin Try.func76 (by kernel_rfl) (by kernel_rfl)
def G40 : Gam := G39.addX 76 c_dWithin
theorem gs40 : GS Try.prog G40 := GS.addX gs39 (s_dWithin mixed gs39 is76 rfl)
theorem is65 : Is Try.prog 65 a_fraction := Is.mk' n_fraction Try.func65 (by kernel_rfl) (by kernel_rfl)
def G41 : Gam := G40.addX 65 c_fraction
theorem gs41 : GS Try.prog G41 := GS.addX gs40 (s_fraction mixed gs40 is65)
theorem is70 : Is Try.prog 70 (a_dOf 82 65) := Is.mk' n_dOf Try.func70 (by kernel_rfl) (by kernel_rfl)
def G42 : Gam := G41.addX 70 c_dOf
theorem gs42 : GS Try.prog G42 := GS.addX gs41 (s_dOf mixed gs41 is70 rfl rfl)
theorem is51 : Is Try.prog 51 (a_ChanceSafe 87 91 76 70) := Is.mk' n_ChanceSafe Try.func51 (by kernel_rfl) (by kernel_rfl)
def G43 : Gam := G42.addX 51 c_ChanceSafe
theorem gs43 : GS Try.prog G43 := GS.addX gs42 (s_ChanceSafe mixed gs42 is51 rfl rfl rfl rfl)
theorem is21 : Is Try.prog 21 a_eqIntA2 := Is.mk' n_eqIntA2 Try.func21 (by kernel_rfl) (by kernel_rfl)
def G44 : Gam := G43.addX 21 c_eqIntA2
theorem gs44 : GS Try.prog G44 := GS.addX gs43 (s_eqIntA2 mixed gs43 is21)
theorem is43 : Is Try.prog 43 a_eqIntS := Is.mk' n_eqIntS Try.func43 (by kernel_rfl) (by kernel_rfl)
def G45 : Gam := G44.addX 43 c_eqIntS
theorem gs45 : GS Try.prog G45 := GS.addX gs44 (s_eqIntS mixed gs44 is43)
theorem is9 : Is Try.prog 9 (a_x_ChanceSafe 41 14 50 51 21 43) := Is.mk' n_x_ChanceSafe Try.func9 (by kernel_rfl) (by kernel_rfl)
theorem law : Says Try.prog 9 c_x_ChanceSafe := s_x_ChanceSafe mixed gs45 is9 rfl rfl rfl rfl rfl rfl
theorem own : ownKnob Try.prog.godebug = none := by kernel_rfl
theorem laidOut : laidOutB Try.prog = true := by kernel_rfl
set_option maxRecDepth 100000 in
theorem lifted (os : Os) (started : os.Started) (H : Type) (enc : TypeId × Value → H) :
    ReturnsInHanded {} Try.checked os 9 .any (Rows.fnExactChanceSafeSpec.pre6 enc Try.prog Try.f9 Rows.fnExactChanceSafeRow.domain false) (Rows.fnExactChanceSafeSpec.post enc Try.prog Try.f9 false true false false) := by
  refine returnsInHanded_of_change (C := Try.checked) own started (by kernel_rfl) Try.func9
    (ChangeSpec.witness6 (enc := enc) (C := Try.checked) false ⟨#[], #[.int .i64 0, .slice none 0 0, .agg #[.int .i64 0, .int .i64 0]], []⟩ 8 (by kernel_rfl) (by kernel_rfl) (by kernel_rfl) (by kernel_rfl)) ?_
  intro W base args ds gs before hval0 hW _ _
  have hval : ∀ (j : Nat) t v, Try.f9.params[j]? = some t → args[j]? = some v → Value.okWide Try.prog W .any base t v := hval0
  obtain ⟨p, q, hA0, hV, _, _, _⟩ := id hW
  have hA : DataW.TrodAll enc Try.prog W 0 (fun _ => true) true Try.f9.params.toList args.toList ds p := hA0
  rw [Try.params9] at hA hval
  obtain ⟨v0, v1, v2, d0, d1, d2, p0, p1, p2, rfl, rfl, rfl, h0, h1, h2⟩ := trodAll_three hA
  obtain ⟨n0, rg0, hp0⟩ := open_int' Try.underlying3 (hval 0 3 v0 rfl rfl)
  obtain ⟨pv1, l1, sl1, le1, hp1⟩ := open_intsV Try.underlying51 Try.underlying3 (by kernel_rfl) (hval 1 51 v1 rfl rfl) h1
  obtain ⟨a2, b2, rg2, hp2⟩ := open_two' Try.underlying24 (by kernel_rfl) (by kernel_rfl) Try.underlying3 Try.underlying3 (hval 2 24 v2 rfl rfl) h2
  have hcon : c_x_ChanceSafe ([.int .i64 n0, pv1, .agg [.int .i64 a2, .int .i64 b2]].map .p) [] = some (.p (.bool true), [], []) := by simp [c_x_ChanceSafe, pure', sl1, le1, rg2]
  refine (calls_true (args := [.int .i64 n0, pv1, .agg [.int .i64 a2, .int .i64 b2]]) (law _ _ _ _ _ hcon) rfl fun i hi => ?_).mono fun e W' ⟨he, hb⟩ => ⟨_, he, post_true hW rfl (fun l hl => ?_) laidOut (by kernel_rfl) (by kernel_rfl) Try.underlying4 hb⟩
  · match i, hi with
    | 0, _ => exact hp0
    | 1, _ => exact hp1
    | 2, _ => exact hp2
  · rw [Try.params9] at hl
    match l, hl with
    | [_, _, _], _ => rfl

theorem fnExactChanceSafe_holds : Rows.FnExactChanceSafeSaid :=
  OpenClaim.holds_of_wide 9 Try.f9 rfl rfl rfl rfl rfl rfl rfl ⟨rfl, rfl, rfl, rfl, rfl⟩ rfl rfl rfl rfl rfl (by kernel_rfl) Try.func9 (by kernel_rfl)
    (of_decide_eq_true (by kernel_rfl)) (by unfold Func.isWrapper; rw [if_neg (by decide +kernel)]; exact ⟨rfl, rfl⟩)
    (fun os started H enc _ => lifted os started H enc)
#print axioms fnExactChanceSafe_holds
end Go.Proofs.Ytmbljmolegalhaa
