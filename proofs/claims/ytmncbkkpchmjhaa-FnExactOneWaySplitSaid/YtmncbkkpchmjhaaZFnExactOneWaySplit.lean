/- FOR EVERY INPUT THE LAW 'FnExactOneWaySplit' RETURNS TRUE, AND THE INPUT READS AS IT DID. No condition beyond the row's own. -/
import Derived.Test.YtmncbkkpchmjhaaChecked
import Derived.Test.YtmncbkkpchmjhaaRows
import Derived.Test.YtmncbkkpchmjhaaB1QI
set_option linter.unusedVariables false
set_option linter.unusedSimpArgs false
namespace Go.Proofs.Ytmncbkkpchmjhaa
open Go Go.Proofs Go.Proofs.Ytmncbkkpchmjhaa.Pam Go.ChangeShapes Go.WideShapes Go.ChangeAt Go.RowKit Go.Joins
theorem mixed : Try.prog.follows .mixedOrders = true := by kernel_rfl
def G0 : Gam := Gam.none
theorem gs0 : GS Try.prog G0 := GS.none
theorem is16 : Is Try.prog 16 a_toIntS := Is.mk' n_toIntS Try.func16 (by kernel_rfl) (by kernel_rfl)
def G1 : Gam := G0.addX 16 c_toIntS
theorem gs1 : GS Try.prog G1 := GS.addX gs0 (s_toIntS mixed gs0 is16)
theorem is50 : Is Try.prog 50 a_l1In := Is.mk' n_l1In Try.func50 (by kernel_rfl) (by kernel_rfl)
def G2 : Gam := G1.addX 50 c_in
theorem gs2 : GS Try.prog G2 := GS.addX gs1 (s_l1In mixed gs1 is50)
theorem is43 : Is Try.prog 43 (a_l4Counts 50) := Is.mk' n_l4Counts Try.func43 (by kernel_rfl) (by kernel_rfl)
def G3 : Gam := G2.addX 43 c_AreCounts
theorem gs3 : GS Try.prog G3 := GS.addX gs2 (s_l4Counts mixed gs2 is43 rfl)
theorem is62 : Is Try.prog 62 a_l4Told := Is.mk' n_l4Told Try.func62 (by kernel_rfl) (by kernel_rfl)
def G4 : Gam := G3.addX 62 c_isTold
theorem gs4 : GS Try.prog G4 := GS.addX gs3 (s_l4Told mixed gs3 is62)
theorem is79 : Is Try.prog 79 a_l4Counted := Is.mk' n_l4Counted Try.func79 (by kernel_rfl) (by kernel_rfl)
def G5 : Gam := G4.addX 79 c_l4Counted
theorem gs5 : GS Try.prog G5 := GS.addX gs4 (s_l4Counted mixed gs4 is79)
theorem is45 : Is Try.prog 45 a_l1Own := Is.mk' n_l1Own Try.func45 (by kernel_rfl) (by kernel_rfl)
def G6 : Gam := G5.addX 45 c_Clone
theorem gs6 : GS Try.prog G6 := GS.addX gs5 (s_l1Own mixed gs5 is45)
theorem is84 : Is Try.prog 84 (a_l4Splits 45) := Is.mk' n_l4Splits Try.func84 (by kernel_rfl) (by kernel_rfl)
def G7 : Gam := G6.addX 84 c_splits
theorem gs7 : GS Try.prog G7 := GS.addX gs6 (s_l4Splits mixed gs6 is84 rfl)
theorem is52 : Is Try.prog 52 a_l4Key := Is.mk' n_l4Key Try.func52 (by kernel_rfl) (by kernel_rfl)
def G8 : Gam := G7.addX 52 c_l4Key
theorem gs8 : GS Try.prog G8 := GS.addX gs7 (s_l4Key mixed gs7 is52)
theorem is78 : Is Try.prog 78 a_l4Rest := Is.mk' n_l4Rest Try.func78 (by kernel_rfl) (by kernel_rfl)
def G9 : Gam := G8.addX 78 c_left
theorem gs9 : GS Try.prog G9 := GS.addX gs8 (s_l4Rest mixed gs8 is78)
theorem is77 : Is Try.prog 77 (a_l4Yes 78 45) := Is.mk' n_l4Yes Try.func77 (by kernel_rfl) (by kernel_rfl)
def G10 : Gam := G9.addX 77 c_l4Yes
theorem gs10 : GS Try.prog G10 := GS.addX gs9 (s_l4Yes mixed gs9 is77 rfl rfl)
theorem is49 : Is Try.prog 49 (a_l4No 78 77) := Is.mk' n_l4No Try.func49 (by kernel_rfl) (by kernel_rfl)
def G11 : Gam := G10.addX 49 c_l4No
theorem gs11 : GS Try.prog G11 := GS.addX gs10 (s_l4No mixed gs10 is49 rfl rfl)
theorem is63 : Is Try.prog 63 (a_l10Best 84 52 49) := Is.mk' n_l10Best Try.func63 (by kernel_rfl) (by kernel_rfl)
def G12 : Gam := G11.addX 63 c_l10Best
theorem gs12 : GS Try.prog G12 := GS.addX gs11 (s_l10Best mixed gs11 is63 rfl rfl rfl)
theorem is59 : Is Try.prog 59 (a_l10Needs 79 62 43 63) := Is.mk' n_l10Needs Try.func59 (by kernel_rfl) (by kernel_rfl)
def G13 : Gam := G12.addX 59 c_l10Needs
theorem gs13 : GS Try.prog G13 := GS.addX gs12 (s_l10Needs mixed gs12 is59 rfl rfl rfl rfl)
theorem is35 : Is Try.prog 35 (a_s_OneWaySplit 43 62 59 52 63 45) := Is.mk' n_s_OneWaySplit Try.func35 (by kernel_rfl) (by kernel_rfl)
def G14 : Gam := G13.addX 35 c_s_OneWaySplit
theorem gs14 : GS Try.prog G14 := GS.addX gs13 (s_s_OneWaySplit mixed gs13 is35 rfl rfl rfl rfl rfl rfl)
theorem is54 : Is Try.prog 54 a_in := Is.mk' n_in Try.func54 (by kernel_rfl) (by kernel_rfl)
def G15 : Gam := G14.addX 54 c_in
theorem gs15 : GS Try.prog G15 := GS.addX gs14 (s_in mixed gs14 is54)
theorem is72 : Is Try.prog 72 (a_AreCounts1 54) := Is.mk' n_AreCounts1 Try.func72 (by kernel_rfl) (by kernel_rfl)
def G16 : Gam := G15.addX 72 c_AreCounts1
theorem gs16 : GS Try.prog G16 := GS.addX gs15 (s_AreCounts1 mixed gs15 is72 rfl)
theorem is90 : Is Try.prog 90 a_IndexFunc := Is.mk' n_IndexFunc Try.func90 (by kernel_rfl) (by kernel_rfl)
def G17 : Gam := G16.addX 90 (c_IndexFunc G16)
theorem gs17 : GS Try.prog G17 := GS.addX gs16 (s_IndexFunc mixed gs16 is90)
theorem is71 : Is Try.prog 71 (a_ContainsFunc 90) := Is.mk' n_ContainsFunc Try.func71 (by kernel_rfl) (by kernel_rfl)
def G18 : Gam := G17.addX 71 (c_ContainsFunc G16)
theorem gs18 : GS Try.prog G18 := GS.addX gs17 (s_ContainsFunc (Γ0 := G16) mixed gs17 is71 rfl)
theorem is73 : Is Try.prog 73 a_sumC := Is.mk' n_sumC Try.func73 (by kernel_rfl) (by kernel_rfl)
def G19 : Gam := G18.addX 73 c_sumC
theorem gs19 : GS Try.prog G19 := GS.addX gs18 (s_sumC mixed gs18 is73)
theorem is46 : Is Try.prog 46 (a_AreCounts 54 71 72 73) := Is.mk' n_AreCounts Try.func46 (by kernel_rfl) (by kernel_rfl)
def G20 : Gam := G19.addX 46 c_AreCounts
theorem gs20 : GS Try.prog G20 := GS.addX gs19 (s_AreCounts (Γ0 := G16) mixed gs19 is46 rfl rfl rfl rfl)
theorem is85 : Is Try.prog 85 (a_isTold 73) := Is.mk' n_isTold Try.func85 (by kernel_rfl) (by kernel_rfl)
def G21 : Gam := G20.addX 85 c_isTold
theorem gs21 : GS Try.prog G21 := GS.addX gs20 (s_isTold mixed gs20 is85 rfl)
theorem is64 : Is Try.prog 64 (a_isUntold 46 85) := Is.mk' n_isUntold Try.func64 (by kernel_rfl) (by kernel_rfl)
def G22 : Gam := G21.addX 64 c_isUntold
theorem gs22 : GS Try.prog G22 := GS.addX gs21 (s_isUntold mixed gs21 is64 rfl rfl)
theorem is74 : Is Try.prog 74 a_Clone := Is.mk' n_Clone Try.func74 (by kernel_rfl) (by kernel_rfl)
def G23 : Gam := G22.addX 74 c_Clone
theorem gs23 : GS Try.prog G23 := GS.addX gs22 (s_Clone mixed gs22 is74)
theorem is87 : Is Try.prog 87 (a_splits 74) := Is.mk' n_splits Try.func87 (by kernel_rfl) (by kernel_rfl)
def G24 : Gam := G23.addX 87 c_splits
theorem gs24 : GS Try.prog G24 := GS.addX gs23 (s_splits mixed gs23 is87 rfl)
theorem is83 : Is Try.prog 83 a_tripleOf := Is.mk' n_tripleOf Try.func83 (by kernel_rfl) (by kernel_rfl)
def G25 : Gam := G24.addX 83 c_tripleOf
theorem gs25 : GS Try.prog G25 := GS.addX gs24 (s_tripleOf mixed gs24 is83)
theorem is76 : Is Try.prog 76 a_left := Is.mk' n_left Try.func76 (by kernel_rfl) (by kernel_rfl)
def G26 : Gam := G25.addX 76 c_left
theorem gs26 : GS Try.prog G26 := GS.addX gs25 (s_left mixed gs25 is76)
theorem is75 : Is Try.prog 75 (a_moved 74) := Is.mk' n_moved Try.func75 (by kernel_rfl) (by kernel_rfl)
def G27 : Gam := G26.addX 75 c_moved
theorem gs27 : GS Try.prog G27 := GS.addX gs26 (s_moved mixed gs26 is75 rfl)
theorem is48 : Is Try.prog 48 (a_oneWay 74 76 75) := Is.mk' n_oneWay Try.func48 (by kernel_rfl) (by kernel_rfl)
def G28 : Gam := G27.addX 48 c_oneWay
theorem gs28 : GS Try.prog G28 := GS.addX gs27 (s_oneWay mixed gs27 is48 rfl rfl rfl)
theorem is92 : Is Try.prog 92 (a_needs1 83) := Is.mk' n_needs1 Try.func92 (by kernel_rfl) (by kernel_rfl)
noncomputable def G29 : Gam := G28.addX 92 (c_needs1 G28)
theorem gs29 : GS Try.prog G29 := GS.addX gs28 (s_needs1 mixed gs28 is92 rfl)
theorem is60 : Is Try.prog 60 (a_nOf 83) := Is.mk' n_nOf Try.func60 (by kernel_rfl) (by kernel_rfl)
noncomputable def G30 : Gam := G29.addX 60 c_nOf
theorem gs30 : GS Try.prog G30 := GS.addX gs29 (s_nOf mixed gs29 is60 rfl)
theorem is70 : Is Try.prog 70 (a_nSplit 60) := Is.mk' n_nSplit Try.func70 (by kernel_rfl) (by kernel_rfl)
noncomputable def G31 : Gam := G30.addX 70 (c_nSplit G30)
theorem gs31 : GS Try.prog G31 := GS.addX gs30 (s_nSplit mixed gs30 is70 rfl)
theorem is88 : Is Try.prog 88 (a_best1 70) := Is.mk' n_best1 Try.func88 (by kernel_rfl) (by kernel_rfl)
noncomputable def G32 : Gam := G31.addX 88 (c_best1 G30)
theorem gs32 : GS Try.prog G32 := GS.addX gs31 (s_best1 (Γ2 := G30) mixed gs31 is88 rfl)
theorem is96 : Is Try.prog 96 a_IndexFuncS := Is.mk' n_IndexFuncS Try.func96 (by kernel_rfl) (by kernel_rfl)
noncomputable def G33 : Gam := G32.addX 96 (c_IndexFuncS G32)
theorem gs33 : GS Try.prog G33 := GS.addX gs32 (s_IndexFuncS mixed gs32 is96)
theorem is91 : Is Try.prog 91 (a_ContainsFuncS 96) := Is.mk' n_ContainsFuncS Try.func91 (by kernel_rfl) (by kernel_rfl)
noncomputable def G34 : Gam := G33.addX 91 (c_ContainsFuncS G32)
theorem gs34 : GS Try.prog G34 := GS.addX gs33 (s_ContainsFuncS (Γ0 := G32) mixed gs33 is91 rfl)
theorem is98 : Is Try.prog 98 a_IndexT := Is.mk' n_IndexT Try.func98 (by kernel_rfl) (by kernel_rfl)
noncomputable def G35 : Gam := G34.addX 98 c_IndexT
theorem gs35 : GS Try.prog G35 := GS.addX gs34 (s_IndexT mixed gs34 is98)
theorem is95 : Is Try.prog 95 (a_ContainsT 98) := Is.mk' n_ContainsT Try.func95 (by kernel_rfl) (by kernel_rfl)
noncomputable def G36 : Gam := G35.addX 95 c_ContainsT
theorem gs36 : GS Try.prog G36 := GS.addX gs35 (s_ContainsT mixed gs35 is95 rfl)
theorem is94 : Is Try.prog 94 (a_needs2 95) := Is.mk' n_needs2 Try.func94 (by kernel_rfl) (by kernel_rfl)
noncomputable def G37 : Gam := G36.addX 94 c_needs2
theorem gs37 : GS Try.prog G37 := GS.addX gs36 (s_needs2 mixed gs36 is94 rfl)
theorem is97 : Is Try.prog 97 a_IndexFuncT := Is.mk' n_IndexFuncT Try.func97 (by kernel_rfl) (by kernel_rfl)
noncomputable def G38 : Gam := G37.addX 97 (c_IndexFuncT G37)
theorem gs38 : GS Try.prog G38 := GS.addX gs37 (s_IndexFuncT mixed gs37 is97)
theorem is93 : Is Try.prog 93 (a_DelT 97) := Is.mk' n_DelT Try.func93 (by kernel_rfl) (by kernel_rfl)
noncomputable def G39 : Gam := G38.addX 93 (c_DelT G37 G38)
theorem gs39 : GS Try.prog G39 := GS.addX gs38 (s_DelT (Γ0 := G37) mixed gs38 is93 rfl)
theorem is81 : Is Try.prog 81 (a_needs 87 92 91 94 93) := Is.mk' n_needs Try.func81 (by kernel_rfl) (by kernel_rfl)
noncomputable def G40 : Gam := G39.addX 81 (c_needs G28)
theorem gs40 : GS Try.prog G40 := GS.addX gs39 (s_needs (Γ0 := G32) (Γ1 := G28) (Γ2 := G37) (Γ3 := G38) mixed gs39 is81 rfl rfl rfl rfl rfl rfl)
theorem is56 : Is Try.prog 56 (a_neederOf 81) := Is.mk' n_neederOf Try.func56 (by kernel_rfl) (by kernel_rfl)
noncomputable def G41 : Gam := G40.addX 56 (c_neederOf G28)
theorem gs41 : GS Try.prog G41 := GS.addX gs40 (s_neederOf (Γ1 := G28) mixed gs40 is56 rfl)
theorem is86 : Is Try.prog 86 (a_DelS 96) := Is.mk' n_DelS Try.func86 (by kernel_rfl) (by kernel_rfl)
noncomputable def G42 : Gam := G41.addX 86 (c_DelS G32 G41)
theorem gs42 : GS Try.prog G42 := GS.addX gs41 (s_DelS (Γ0 := G32) mixed gs41 is86 rfl)
theorem is65 : Is Try.prog 65 (a_nBest 60 87 88 86) := Is.mk' n_nBest Try.func65 (by kernel_rfl) (by kernel_rfl)
noncomputable def G43 : Gam := G42.addX 65 (c_nBest G30)
theorem gs43 : GS Try.prog G43 := GS.addX gs42 (s_nBest (Γ0 := G32) (Γ1 := G41) (Γ2 := G30) mixed gs42 is65 rfl rfl rfl rfl rfl)
theorem is36 : Is Try.prog 36 (a_OneWaySplit 64 56 48 65) := Is.mk' n_OneWaySplit Try.func36 (by kernel_rfl) (by kernel_rfl)
noncomputable def G44 : Gam := G43.addX 36 c_OneWaySplit
theorem gs44 : GS Try.prog G44 := GS.addX gs43 (s_OneWaySplit (Γ1 := G28) (Γ2 := G30) mixed gs43 is36 rfl rfl rfl rfl rfl)
theorem is18 : Is Try.prog 18 a_eqIntS := Is.mk' n_eqIntS Try.func18 (by kernel_rfl) (by kernel_rfl)
noncomputable def G45 : Gam := G44.addX 18 c_eqIntS
theorem gs45 : GS Try.prog G45 := GS.addX gs44 (s_eqIntS mixed gs44 is18)
theorem is19 : Is Try.prog 19 a_markIntS := Is.mk' n_markIntS Try.func19 (by kernel_rfl) (by kernel_rfl)
noncomputable def G46 : Gam := G45.addX 19 c_markIntS
theorem gs46 : GS Try.prog G46 := GS.addX gs45 (s_markIntS mixed gs45 is19)
theorem is20 : Is Try.prog 20 a_heldIntS := Is.mk' n_heldIntS Try.func20 (by kernel_rfl) (by kernel_rfl)
noncomputable def G47 : Gam := G46.addX 20 c_heldIntS
theorem gs47 : GS Try.prog G47 := GS.addX gs46 (s_heldIntS mixed gs46 is20)
noncomputable def G48 : Gam := G47.addX 74 (unC c_Clone)
theorem gs48 : GS Try.prog G48 := GS.addX gs47 (Says.un (says_of gs47 rfl))
theorem isw87 : Is Try.prog 87 (a_splitsW 74) := Is.mk' n_splitsW Try.func87 (by kernel_rfl) (by kernel_rfl)
noncomputable def G49 : Gam := G48.addX 87 c_splitsW
theorem gs49 : GS Try.prog G49 := GS.addX gs48 (s_splitsW mixed gs48 isw87 rfl)
noncomputable def G50 : Gam := G49.addX 88 (unC (c_best1 G30))
theorem gs50 : GS Try.prog G50 := GS.addX gs49 (Says.un (says_of gs49 rfl))
theorem isw96 : Is Try.prog 96 a_IndexFuncW := Is.mk' n_IndexFuncW Try.func96 (by kernel_rfl) (by kernel_rfl)
noncomputable def G51 : Gam := G50.addX 96 (c_IndexFuncW G50)
theorem gs51 : GS Try.prog G51 := GS.addX gs50 (s_IndexFuncW mixed gs50 isw96)
theorem isw86 : Is Try.prog 86 (a_DelW 96) := Is.mk' n_DelW Try.func86 (by kernel_rfl) (by kernel_rfl)
noncomputable def G52 : Gam := G51.addX 86 (c_DelW G50 G51)
theorem gs52 : GS Try.prog G52 := GS.addX gs51 (s_DelW (Γ0 := G50) mixed gs51 isw86 rfl)
noncomputable def G53 : Gam := G52.addX 60 (unC c_nOf)
theorem gs53 : GS Try.prog G53 := GS.addX gs52 (Says.un (says_of gs52 rfl))
theorem isw65 : Is Try.prog 65 (a_nBestW 60 87 88 86) := Is.mk' n_nBestW Try.func65 (by kernel_rfl) (by kernel_rfl)
noncomputable def G54 : Gam := G53.addX 65 (c_nBestW G30)
theorem gs54 : GS Try.prog G54 := GS.addX gs53 (s_nBestW (Γ0 := G50) (Γ1 := G51) (Γ2 := G30) mixed gs53 isw65 rfl rfl rfl rfl rfl)
noncomputable def G55 : Gam := G54.addX 64 (unC c_isUntold)
theorem gs55 : GS Try.prog G55 := GS.addX gs54 (Says.un (says_of gs54 rfl))
theorem isw36 : Is Try.prog 36 (a_OneWaySplitW 64 56 48 65) := Is.mk' n_OneWaySplitW Try.func36 (by kernel_rfl) (by kernel_rfl)
noncomputable def G56 : Gam := G55.addX 36 c_OneWaySplitW
theorem gs56 : GS Try.prog G56 := GS.addX gs55 (s_OneWaySplitW (Γ1 := G28) (Γ2 := G30) mixed gs55 isw36 rfl rfl rfl rfl rfl)
noncomputable def G57 : Gam := G56.addX 36 c_OneWaySplitO
theorem gs57 : GS Try.prog G57 := GS.addX gs56 (own_OneWaySplit (says_of gs56 rfl))
theorem is11 : Is Try.prog 11 (a_x_OneWaySplit 16 35 36 18 19 20) := Is.mk' n_x_OneWaySplit Try.func11 (by kernel_rfl) (by kernel_rfl)
theorem law : Says Try.prog 11 c_x_OneWaySplit := s_x_OneWaySplit mixed gs57 is11 rfl rfl rfl rfl rfl rfl
theorem own : ownKnob Try.prog.godebug = none := by kernel_rfl
theorem laidOut : laidOutB Try.prog = true := by kernel_rfl
set_option maxRecDepth 100000 in
theorem lifted (os : Os) (started : os.Started) (H : Type) (enc : TypeId × Value → H) :
    ReturnsInHanded {} Try.checked os 11 .any (Rows.fnExactOneWaySplitSpec.pre6 enc Try.prog Try.f11 Rows.fnExactOneWaySplitRow.domain false) (Rows.fnExactOneWaySplitSpec.post enc Try.prog Try.f11 false true false false) := by
  refine returnsInHanded_of_change (C := Try.checked) own started (by kernel_rfl) Try.func11
    (ChangeSpec.witness6 (enc := enc) (C := Try.checked) false ⟨#[], #[.slice none 0 0], []⟩ 8 (by kernel_rfl) (by kernel_rfl) (by kernel_rfl) (by kernel_rfl)) ?_
  intro W base args ds gs before hval0 hW _ _
  have hval : ∀ (j : Nat) t v, Try.f11.params[j]? = some t → args[j]? = some v → Value.okWide Try.prog W .any base t v := hval0
  obtain ⟨p, q, hA0, hV, _, _, _⟩ := id hW
  have hA : DataW.TrodAll enc Try.prog W 0 (fun _ => true) true Try.f11.params.toList args.toList ds p := hA0
  rw [Try.params11] at hA hval
  obtain ⟨v0, d0, rfl, rfl, h0⟩ := trodAll_one hA
  obtain ⟨pv0, l0, sl0, le0, hp0⟩ := open_intsV Try.underlying22 Try.underlying3 (by kernel_rfl) (hval 0 22 v0 rfl rfl) h0
  have hcon : c_x_OneWaySplit ([pv0].map .p) [] = some (.p (.bool true), [], []) := by simp [c_x_OneWaySplit, pure', sl0, le0]
  refine (calls_true (args := [pv0]) (law _ _ _ _ _ hcon) rfl fun i hi => ?_).mono fun e W' ⟨he, hb⟩ => ⟨_, he, post_true hW rfl (fun l hl => ?_) laidOut (by kernel_rfl) (by kernel_rfl) Try.underlying4 hb⟩
  · match i, hi with
    | 0, _ => exact hp0
  · rw [Try.params11] at hl
    match l, hl with
    | [_], _ => rfl

theorem fnExactOneWaySplit_holds : Rows.FnExactOneWaySplitSaid :=
  OpenClaim.holds_of_wide 11 Try.f11 rfl rfl rfl rfl rfl rfl rfl ⟨rfl, rfl, rfl, rfl, rfl⟩ rfl rfl rfl rfl rfl (by kernel_rfl) Try.func11 (by kernel_rfl)
    (of_decide_eq_true (by kernel_rfl)) (by unfold Func.isWrapper; rw [if_neg (by decide +kernel)]; exact ⟨rfl, rfl⟩)
    (fun os started H enc _ => lifted os started H enc)
#print axioms fnExactOneWaySplit_holds
end Go.Proofs.Ytmncbkkpchmjhaa
