/- FOR EVERY INPUT THE LAW 'FnExactOneWayPaths' RETURNS TRUE, AND THE INPUT READS AS IT DID. No condition beyond the row's own. -/
import Derived.Test.YtihpfhdkjlphhaaChecked
import Derived.Test.YtihpfhdkjlphhaaRows
import Derived.Test.YtihpfhdkjlphhaaGeNN
set_option linter.unusedVariables false
set_option linter.unusedSimpArgs false
namespace Go.Proofs.Ytihpfhdkjlphhaa
open Go Go.Proofs Go.Proofs.Ytihpfhdkjlphhaa.Pam Go.ChangeShapes Go.WideShapes Go.ChangeAt Go.RowKit Go.Joins
theorem mixed : Try.prog.follows .mixedOrders = true := by kernel_rfl
def G0 : Gam := Gam.none
theorem gs0 : GS Try.prog G0 := GS.none
theorem is48 : Is Try.prog 48 a_toIntS := Is.mk' n_toIntS Try.func48 (by kernel_rfl) (by kernel_rfl)
def G1 : Gam := G0.addX 48 c_toIntS
theorem gs1 : GS Try.prog G1 := GS.addX gs0 (s_toIntS mixed gs0 is48)
theorem is102 : Is Try.prog 102 a_l1In := Is.mk' n_l1In Try.func102 (by kernel_rfl) (by kernel_rfl)
def G2 : Gam := G1.addX 102 c_in
theorem gs2 : GS Try.prog G2 := GS.addX gs1 (s_l1In mixed gs1 is102)
theorem is76 : Is Try.prog 76 (a_l4Counts 102) := Is.mk' n_l4Counts Try.func76 (by kernel_rfl) (by kernel_rfl)
def G3 : Gam := G2.addX 76 c_AreCounts
theorem gs3 : GS Try.prog G3 := GS.addX gs2 (s_l4Counts mixed gs2 is76 rfl)
theorem is140 : Is Try.prog 140 a_l4Counted := Is.mk' n_l4Counted Try.func140 (by kernel_rfl) (by kernel_rfl)
def G4 : Gam := G3.addX 140 c_l4Counted
theorem gs4 : GS Try.prog G4 := GS.addX gs3 (s_l4Counted mixed gs3 is140)
theorem is78 : Is Try.prog 78 a_l4Told := Is.mk' n_l4Told Try.func78 (by kernel_rfl) (by kernel_rfl)
def G5 : Gam := G4.addX 78 c_isTold
theorem gs5 : GS Try.prog G5 := GS.addX gs4 (s_l4Told mixed gs4 is78)
theorem is91 : Is Try.prog 91 a_l1Own := Is.mk' n_l1Own Try.func91 (by kernel_rfl) (by kernel_rfl)
def G6 : Gam := G5.addX 91 c_Clone
theorem gs6 : GS Try.prog G6 := GS.addX gs5 (s_l1Own mixed gs5 is91)
theorem is148 : Is Try.prog 148 (a_l4Splits 91) := Is.mk' n_l4Splits Try.func148 (by kernel_rfl) (by kernel_rfl)
def G7 : Gam := G6.addX 148 c_splits
theorem gs7 : GS Try.prog G7 := GS.addX gs6 (s_l4Splits mixed gs6 is148 rfl)
theorem is85 : Is Try.prog 85 a_l4Key := Is.mk' n_l4Key Try.func85 (by kernel_rfl) (by kernel_rfl)
def G8 : Gam := G7.addX 85 c_l4Key
theorem gs8 : GS Try.prog G8 := GS.addX gs7 (s_l4Key mixed gs7 is85)
theorem is142 : Is Try.prog 142 a_l4Rest := Is.mk' n_l4Rest Try.func142 (by kernel_rfl) (by kernel_rfl)
def G9 : Gam := G8.addX 142 c_left
theorem gs9 : GS Try.prog G9 := GS.addX gs8 (s_l4Rest mixed gs8 is142)
theorem is82 : Is Try.prog 82 (a_l4Yes 142 91) := Is.mk' n_l4Yes Try.func82 (by kernel_rfl) (by kernel_rfl)
def G10 : Gam := G9.addX 82 c_l4Yes
theorem gs10 : GS Try.prog G10 := GS.addX gs9 (s_l4Yes mixed gs9 is82 rfl rfl)
theorem is83 : Is Try.prog 83 (a_l4No 142 82) := Is.mk' n_l4No Try.func83 (by kernel_rfl) (by kernel_rfl)
def G11 : Gam := G10.addX 83 c_l4No
theorem gs11 : GS Try.prog G11 := GS.addX gs10 (s_l4No mixed gs10 is83 rfl rfl)
theorem is96 : Is Try.prog 96 (a_l10Best 148 85 83) := Is.mk' n_l10Best Try.func96 (by kernel_rfl) (by kernel_rfl)
def G12 : Gam := G11.addX 96 c_l10Best
theorem gs12 : GS Try.prog G12 := GS.addX gs11 (s_l10Best mixed gs11 is96 rfl rfl rfl)
theorem is95 : Is Try.prog 95 (a_l10Needs 140 78 76 96) := Is.mk' n_l10Needs Try.func95 (by kernel_rfl) (by kernel_rfl)
def G13 : Gam := G12.addX 95 c_l10Needs
theorem gs13 : GS Try.prog G13 := GS.addX gs12 (s_l10Needs mixed gs12 is95 rfl rfl rfl rfl)
theorem is150 : Is Try.prog 150 a_l1Least := Is.mk' n_l1Least Try.func150 (by kernel_rfl) (by kernel_rfl)
def G14 : Gam := G13.addX 150 c_l1Least
theorem gs14 : GS Try.prog G14 := GS.addX gs13 (s_l1Least mixed gs13 is150)
theorem is81 : Is Try.prog 81 a_l1Most := Is.mk' n_l1Most Try.func81 (by kernel_rfl) (by kernel_rfl)
def G15 : Gam := G14.addX 81 c_l1Most
theorem gs15 : GS Try.prog G15 := GS.addX gs14 (s_l1Most mixed gs14 is81)
theorem is98 : Is Try.prog 98 (a_l10Paths 78 85 96 98 83 150 81) := Is.mk' n_l10Paths Try.func98 (by kernel_rfl) (by kernel_rfl)
def G16 : Gam := G15.addX 98 c_l10Paths
theorem gs16 : GS Try.prog G16 := GS.addX gs15 (s_l10Paths mixed gs15 is98 (by decide) rfl rfl rfl rfl rfl rfl)
theorem is36 : Is Try.prog 36 (a_s_OneWayPaths 76 95 98) := Is.mk' n_s_OneWayPaths Try.func36 (by kernel_rfl) (by kernel_rfl)
def G17 : Gam := G16.addX 36 c_OneWayPaths
theorem gs17 : GS Try.prog G17 := GS.addX gs16 (s_s_OneWayPaths mixed gs16 is36 rfl rfl rfl)
theorem is86 : Is Try.prog 86 a_in := Is.mk' n_in Try.func86 (by kernel_rfl) (by kernel_rfl)
def G18 : Gam := G17.addX 86 c_in
theorem gs18 : GS Try.prog G18 := GS.addX gs17 (s_in mixed gs17 is86)
theorem is88 : Is Try.prog 88 (a_AreCounts1 86) := Is.mk' n_AreCounts1 Try.func88 (by kernel_rfl) (by kernel_rfl)
def G19 : Gam := G18.addX 88 c_AreCounts1
theorem gs19 : GS Try.prog G19 := GS.addX gs18 (s_AreCounts1 mixed gs18 is88 rfl)
theorem is144 : Is Try.prog 144 a_IndexFunc := Is.mk' n_IndexFunc Try.func144 (by kernel_rfl) (by kernel_rfl)
def G20 : Gam := G19.addX 144 (c_IndexFunc G19)
theorem gs20 : GS Try.prog G20 := GS.addX gs19 (s_IndexFunc mixed gs19 is144)
theorem is87 : Is Try.prog 87 (a_ContainsFunc 144) := Is.mk' n_ContainsFunc Try.func87 (by kernel_rfl) (by kernel_rfl)
def G21 : Gam := G20.addX 87 (c_ContainsFunc G19)
theorem gs21 : GS Try.prog G21 := GS.addX gs20 (s_ContainsFunc (Γ0 := G19) mixed gs20 is87 rfl)
theorem is89 : Is Try.prog 89 a_sumC := Is.mk' n_sumC Try.func89 (by kernel_rfl) (by kernel_rfl)
def G22 : Gam := G21.addX 89 c_sumC
theorem gs22 : GS Try.prog G22 := GS.addX gs21 (s_sumC mixed gs21 is89)
theorem is23 : Is Try.prog 23 (a_AreCounts 86 87 88 89) := Is.mk' n_AreCounts Try.func23 (by kernel_rfl) (by kernel_rfl)
def G23 : Gam := G22.addX 23 c_AreCounts
theorem gs23 : GS Try.prog G23 := GS.addX gs22 (s_AreCounts (Γ0 := G19) mixed gs22 is23 rfl rfl rfl rfl)
theorem is149 : Is Try.prog 149 a_Clone := Is.mk' n_Clone Try.func149 (by kernel_rfl) (by kernel_rfl)
def G24 : Gam := G23.addX 149 c_Clone
theorem gs24 : GS Try.prog G24 := GS.addX gs23 (s_Clone mixed gs23 is149)
theorem is146 : Is Try.prog 146 (a_splits 149) := Is.mk' n_splits Try.func146 (by kernel_rfl) (by kernel_rfl)
def G25 : Gam := G24.addX 146 c_splits
theorem gs25 : GS Try.prog G25 := GS.addX gs24 (s_splits mixed gs24 is146 rfl)
theorem is143 : Is Try.prog 143 a_tripleOf := Is.mk' n_tripleOf Try.func143 (by kernel_rfl) (by kernel_rfl)
def G26 : Gam := G25.addX 143 c_tripleOf
theorem gs26 : GS Try.prog G26 := GS.addX gs25 (s_tripleOf mixed gs25 is143)
theorem is136 : Is Try.prog 136 a_left := Is.mk' n_left Try.func136 (by kernel_rfl) (by kernel_rfl)
def G27 : Gam := G26.addX 136 c_left
theorem gs27 : GS Try.prog G27 := GS.addX gs26 (s_left mixed gs26 is136)
theorem is137 : Is Try.prog 137 (a_moved 149) := Is.mk' n_moved Try.func137 (by kernel_rfl) (by kernel_rfl)
def G28 : Gam := G27.addX 137 c_moved
theorem gs28 : GS Try.prog G28 := GS.addX gs27 (s_moved mixed gs27 is137 rfl)
theorem is94 : Is Try.prog 94 (a_oneWay 149 136 137) := Is.mk' n_oneWay Try.func94 (by kernel_rfl) (by kernel_rfl)
def G29 : Gam := G28.addX 94 c_oneWay
theorem gs29 : GS Try.prog G29 := GS.addX gs28 (s_oneWay mixed gs28 is94 rfl rfl rfl)
theorem is169 : Is Try.prog 169 (a_needs1 143) := Is.mk' n_needs1 Try.func169 (by kernel_rfl) (by kernel_rfl)
noncomputable def G30 : Gam := G29.addX 169 (c_needs1 G29)
theorem gs30 : GS Try.prog G30 := GS.addX gs29 (s_needs1 mixed gs29 is169 rfl)
theorem is84 : Is Try.prog 84 (a_nOf 143) := Is.mk' n_nOf Try.func84 (by kernel_rfl) (by kernel_rfl)
noncomputable def G31 : Gam := G30.addX 84 c_nOf
theorem gs31 : GS Try.prog G31 := GS.addX gs30 (s_nOf mixed gs30 is84 rfl)
theorem is75 : Is Try.prog 75 (a_nSplit 84) := Is.mk' n_nSplit Try.func75 (by kernel_rfl) (by kernel_rfl)
noncomputable def G32 : Gam := G31.addX 75 (c_nSplit G31)
theorem gs32 : GS Try.prog G32 := GS.addX gs31 (s_nSplit mixed gs31 is75 rfl)
theorem is147 : Is Try.prog 147 (a_best1 75) := Is.mk' n_best1 Try.func147 (by kernel_rfl) (by kernel_rfl)
noncomputable def G33 : Gam := G32.addX 147 (c_best1 G31)
theorem gs33 : GS Try.prog G33 := GS.addX gs32 (s_best1 (Γ2 := G31) mixed gs32 is147 rfl)
theorem is173 : Is Try.prog 173 a_IndexFuncS := Is.mk' n_IndexFuncS Try.func173 (by kernel_rfl) (by kernel_rfl)
noncomputable def G34 : Gam := G33.addX 173 (c_IndexFuncS G33)
theorem gs34 : GS Try.prog G34 := GS.addX gs33 (s_IndexFuncS mixed gs33 is173)
theorem is168 : Is Try.prog 168 (a_ContainsFuncS 173) := Is.mk' n_ContainsFuncS Try.func168 (by kernel_rfl) (by kernel_rfl)
noncomputable def G35 : Gam := G34.addX 168 (c_ContainsFuncS G33)
theorem gs35 : GS Try.prog G35 := GS.addX gs34 (s_ContainsFuncS (Γ0 := G33) mixed gs34 is168 rfl)
theorem is179 : Is Try.prog 179 a_IndexT := Is.mk' n_IndexT Try.func179 (by kernel_rfl) (by kernel_rfl)
noncomputable def G36 : Gam := G35.addX 179 c_IndexT
theorem gs36 : GS Try.prog G36 := GS.addX gs35 (s_IndexT mixed gs35 is179)
theorem is172 : Is Try.prog 172 (a_ContainsT 179) := Is.mk' n_ContainsT Try.func172 (by kernel_rfl) (by kernel_rfl)
noncomputable def G37 : Gam := G36.addX 172 c_ContainsT
theorem gs37 : GS Try.prog G37 := GS.addX gs36 (s_ContainsT mixed gs36 is172 rfl)
theorem is171 : Is Try.prog 171 (a_needs2 172) := Is.mk' n_needs2 Try.func171 (by kernel_rfl) (by kernel_rfl)
noncomputable def G38 : Gam := G37.addX 171 c_needs2
theorem gs38 : GS Try.prog G38 := GS.addX gs37 (s_needs2 mixed gs37 is171 rfl)
theorem is178 : Is Try.prog 178 a_IndexFuncT := Is.mk' n_IndexFuncT Try.func178 (by kernel_rfl) (by kernel_rfl)
noncomputable def G39 : Gam := G38.addX 178 (c_IndexFuncT G38)
theorem gs39 : GS Try.prog G39 := GS.addX gs38 (s_IndexFuncT mixed gs38 is178)
theorem is170 : Is Try.prog 170 (a_DelT 178) := Is.mk' n_DelT Try.func170 (by kernel_rfl) (by kernel_rfl)
noncomputable def G40 : Gam := G39.addX 170 (c_DelT G38 G39)
theorem gs40 : GS Try.prog G40 := GS.addX gs39 (s_DelT (Γ0 := G38) mixed gs39 is170 rfl)
theorem is138 : Is Try.prog 138 (a_needs 146 169 168 171 170) := Is.mk' n_needs Try.func138 (by kernel_rfl) (by kernel_rfl)
noncomputable def G41 : Gam := G40.addX 138 (c_needs G29)
theorem gs41 : GS Try.prog G41 := GS.addX gs40 (s_needs (Γ0 := G33) (Γ1 := G29) (Γ2 := G38) (Γ3 := G39) mixed gs40 is138 rfl rfl rfl rfl rfl rfl)
theorem is74 : Is Try.prog 74 (a_neederOf 138) := Is.mk' n_neederOf Try.func74 (by kernel_rfl) (by kernel_rfl)
noncomputable def G42 : Gam := G41.addX 74 (c_neederOf G29)
theorem gs42 : GS Try.prog G42 := GS.addX gs41 (s_neederOf (Γ1 := G29) mixed gs41 is74 rfl)
theorem is135 : Is Try.prog 135 (a_isTold 89) := Is.mk' n_isTold Try.func135 (by kernel_rfl) (by kernel_rfl)
noncomputable def G43 : Gam := G42.addX 135 c_isTold
theorem gs43 : GS Try.prog G43 := GS.addX gs42 (s_isTold mixed gs42 is135 rfl)
theorem is145 : Is Try.prog 145 (a_DelS 173) := Is.mk' n_DelS Try.func145 (by kernel_rfl) (by kernel_rfl)
noncomputable def G44 : Gam := G43.addX 145 (c_DelS G33 G43)
theorem gs44 : GS Try.prog G44 := GS.addX gs43 (s_DelS (Γ0 := G33) mixed gs43 is145 rfl)
theorem is90 : Is Try.prog 90 (a_nBest 84 146 147 145) := Is.mk' n_nBest Try.func90 (by kernel_rfl) (by kernel_rfl)
noncomputable def G45 : Gam := G44.addX 90 (c_nBest G31)
theorem gs45 : GS Try.prog G45 := GS.addX gs44 (s_nBest (Γ0 := G33) (Γ1 := G43) (Γ2 := G31) mixed gs44 is90 rfl rfl rfl rfl rfl)
theorem is97 : Is Try.prog 97 (a_nPaths 135 90 97) := Is.mk' n_nPaths Try.func97 (by kernel_rfl) (by kernel_rfl)
noncomputable def G46 : Gam := G45.addX 97 (c_nPaths G31 G45)
theorem gs46 : GS Try.prog G46 := GS.addX gs45 (s_nPaths (Γ2 := G31) mixed gs45 is97 (by decide) rfl rfl rfl)
theorem is35 : Is Try.prog 35 (a_OneWayPaths 23 74 94 97) := Is.mk' n_OneWayPaths Try.func35 (by kernel_rfl) (by kernel_rfl)
noncomputable def G47 : Gam := G46.addX 35 c_OneWayPaths
theorem gs47 : GS Try.prog G47 := GS.addX gs46 (s_OneWayPaths (Γ1 := G29) (Γ2 := G31) (Γ3 := G45) mixed gs46 is35 rfl rfl rfl rfl rfl rfl)
theorem is49 : Is Try.prog 49 a_eqIntS := Is.mk' n_eqIntS Try.func49 (by kernel_rfl) (by kernel_rfl)
noncomputable def G48 : Gam := G47.addX 49 c_eqIntS
theorem gs48 : GS Try.prog G48 := GS.addX gs47 (s_eqIntS mixed gs47 is49)
theorem is5 : Is Try.prog 5 (a_x_OneWayPaths 48 36 35 49) := Is.mk' n_x_OneWayPaths Try.func5 (by kernel_rfl) (by kernel_rfl)
theorem law : Says Try.prog 5 c_x_OneWayPaths := s_x_OneWayPaths mixed gs48 is5 rfl rfl rfl rfl
theorem own : ownKnob Try.prog.godebug = none := by kernel_rfl
theorem laidOut : laidOutB Try.prog = true := by kernel_rfl
set_option maxRecDepth 100000 in
theorem lifted (os : Os) (started : os.Started) (H : Type) (enc : TypeId × Value → H) :
    ReturnsInHanded {} Try.checked os 5 .any (Rows.fnExactOneWayPathsSpec.pre6 enc Try.prog Try.f5 Rows.fnExactOneWayPathsRow.domain false) (Rows.fnExactOneWayPathsSpec.post enc Try.prog Try.f5 false true false false) := by
  refine returnsInHanded_of_change (C := Try.checked) own started (by kernel_rfl) Try.func5
    (ChangeSpec.witness6 (enc := enc) (C := Try.checked) false ⟨#[], #[.slice none 0 0], []⟩ 8 (by kernel_rfl) (by kernel_rfl) (by kernel_rfl) (by kernel_rfl)) ?_
  intro W base args ds gs before hval0 hW _ _
  have hval : ∀ (j : Nat) t v, Try.f5.params[j]? = some t → args[j]? = some v → Value.okWide Try.prog W .any base t v := hval0
  obtain ⟨p, q, hA0, hV, _, _, _⟩ := id hW
  have hA : DataW.TrodAll enc Try.prog W 0 (fun _ => true) true Try.f5.params.toList args.toList ds p := hA0
  rw [Try.params5] at hA hval
  obtain ⟨v0, d0, rfl, rfl, h0⟩ := trodAll_one hA
  obtain ⟨pv0, l0, sl0, le0, hp0⟩ := open_intsV Try.underlying24 Try.underlying3 (by kernel_rfl) (hval 0 24 v0 rfl rfl) h0
  have hcon : c_x_OneWayPaths ([pv0].map .p) [] = some (.p (.bool true), [], []) := by simp [c_x_OneWayPaths, pure', sl0, le0]
  refine (calls_true (args := [pv0]) (law _ _ _ _ _ hcon) rfl fun i hi => ?_).mono fun e W' ⟨he, hb⟩ => ⟨_, he, post_true hW rfl (fun l hl => ?_) laidOut (by kernel_rfl) (by kernel_rfl) Try.underlying4 hb⟩
  · match i, hi with
    | 0, _ => exact hp0
  · rw [Try.params5] at hl
    match l, hl with
    | [_], _ => rfl

theorem fnExactOneWayPaths_holds : Rows.FnExactOneWayPathsSaid :=
  OpenClaim.holds_of_wide 5 Try.f5 rfl rfl rfl rfl rfl rfl rfl ⟨rfl, rfl, rfl, rfl, rfl⟩ rfl rfl rfl rfl rfl (by kernel_rfl) Try.func5 (by kernel_rfl)
    (of_decide_eq_true (by kernel_rfl)) (by unfold Func.isWrapper; rw [if_neg (by decide +kernel)]; exact ⟨rfl, rfl⟩)
    (fun os started H enc _ => lifted os started H enc)
#print axioms fnExactOneWayPaths_holds
end Go.Proofs.Ytihpfhdkjlphhaa
