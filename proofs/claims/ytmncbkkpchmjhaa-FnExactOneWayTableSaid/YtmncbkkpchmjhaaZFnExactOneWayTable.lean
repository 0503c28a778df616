/- FOR EVERY INPUT THE LAW 'FnExactOneWayTable' RETURNS TRUE, AND THE INPUT READS AS IT DID. No condition beyond the row's own. -/
import Derived.Test.YtmncbkkpchmjhaaChecked
import Derived.Test.YtmncbkkpchmjhaaRows
import Derived.Test.YtmncbkkpchmjhaaGcMO
set_option linter.unusedVariables false
set_option linter.unusedSimpArgs false
namespace Go.Proofs.Ytmncbkkpchmjhaa
open Go Go.Proofs Go.Proofs.Ytmncbkkpchmjhaa.Pam Go.ChangeShapes Go.WideShapes Go.ChangeAt Go.RowKit Go.Joins
theorem mixed : Try.prog.follows .mixedOrders = true := by kernel_rfl
def G0 : Gam := Gam.none
theorem gs0 : GS Try.prog G0 := GS.none
theorem is50 : Is Try.prog 50 a_l1In := Is.mk' n_l1In Try.func50 (by kernel_rfl) (by kernel_rfl)
def G1 : Gam := G0.addX 50 c_in
theorem gs1 : GS Try.prog G1 := GS.addX gs0 (s_l1In mixed gs0 is50)
theorem is79 : Is Try.prog 79 a_l4Counted := Is.mk' n_l4Counted Try.func79 (by kernel_rfl) (by kernel_rfl)
def G2 : Gam := G1.addX 79 c_l4Counted
theorem gs2 : GS Try.prog G2 := GS.addX gs1 (s_l4Counted mixed gs1 is79)
theorem is62 : Is Try.prog 62 a_l4Told := Is.mk' n_l4Told Try.func62 (by kernel_rfl) (by kernel_rfl)
def G3 : Gam := G2.addX 62 c_isTold
theorem gs3 : GS Try.prog G3 := GS.addX gs2 (s_l4Told mixed gs2 is62)
theorem is43 : Is Try.prog 43 (a_l4Counts 50) := Is.mk' n_l4Counts Try.func43 (by kernel_rfl) (by kernel_rfl)
def G4 : Gam := G3.addX 43 c_AreCounts
theorem gs4 : GS Try.prog G4 := GS.addX gs3 (s_l4Counts mixed gs3 is43 rfl)
theorem is45 : Is Try.prog 45 a_l1Own := Is.mk' n_l1Own Try.func45 (by kernel_rfl) (by kernel_rfl)
def G5 : Gam := G4.addX 45 c_Clone
theorem gs5 : GS Try.prog G5 := GS.addX gs4 (s_l1Own mixed gs4 is45)
theorem is84 : Is Try.prog 84 (a_l4Splits 45) := Is.mk' n_l4Splits Try.func84 (by kernel_rfl) (by kernel_rfl)
def G6 : Gam := G5.addX 84 c_splits
theorem gs6 : GS Try.prog G6 := GS.addX gs5 (s_l4Splits mixed gs5 is84 rfl)
theorem is52 : Is Try.prog 52 a_l4Key := Is.mk' n_l4Key Try.func52 (by kernel_rfl) (by kernel_rfl)
def G7 : Gam := G6.addX 52 c_l4Key
theorem gs7 : GS Try.prog G7 := GS.addX gs6 (s_l4Key mixed gs6 is52)
theorem is78 : Is Try.prog 78 a_l4Rest := Is.mk' n_l4Rest Try.func78 (by kernel_rfl) (by kernel_rfl)
def G8 : Gam := G7.addX 78 c_left
theorem gs8 : GS Try.prog G8 := GS.addX gs7 (s_l4Rest mixed gs7 is78)
theorem is77 : Is Try.prog 77 (a_l4Yes 78 45) := Is.mk' n_l4Yes Try.func77 (by kernel_rfl) (by kernel_rfl)
def G9 : Gam := G8.addX 77 c_l4Yes
theorem gs9 : GS Try.prog G9 := GS.addX gs8 (s_l4Yes mixed gs8 is77 rfl rfl)
theorem is49 : Is Try.prog 49 (a_l4No 78 77) := Is.mk' n_l4No Try.func49 (by kernel_rfl) (by kernel_rfl)
def G10 : Gam := G9.addX 49 c_l4No
theorem gs10 : GS Try.prog G10 := GS.addX gs9 (s_l4No mixed gs9 is49 rfl rfl)
theorem is63 : Is Try.prog 63 (a_l10Best 84 52 49) := Is.mk' n_l10Best Try.func63 (by kernel_rfl) (by kernel_rfl)
def G11 : Gam := G10.addX 63 c_l10Best
theorem gs11 : GS Try.prog G11 := GS.addX gs10 (s_l10Best mixed gs10 is63 rfl rfl rfl)
theorem is59 : Is Try.prog 59 (a_l10Needs 79 62 43 63) := Is.mk' n_l10Needs Try.func59 (by kernel_rfl) (by kernel_rfl)
def G12 : Gam := G11.addX 59 c_l10Needs
theorem gs12 : GS Try.prog G12 := GS.addX gs11 (s_l10Needs mixed gs11 is59 rfl rfl rfl rfl)
theorem is53 : Is Try.prog 53 a_countsOf := Is.mk' n_countsOf Try.func53 (by kernel_rfl) (by kernel_rfl)
def G13 : Gam := G12.addX 53 c_countsOf
theorem gs13 : GS Try.prog G13 := GS.addX gs12 (s_countsOf mixed gs12 is53)
theorem is33 : Is Try.prog 33 (a_s_OneWayTable 50 59 53 52) := Is.mk' n_s_OneWayTable Try.func33 (by kernel_rfl) (by kernel_rfl)
def G14 : Gam := G13.addX 33 c_s_OneWayTable
theorem gs14 : GS Try.prog G14 := GS.addX gs13 (s_s_OneWayTable mixed gs13 is33 rfl rfl rfl rfl)
theorem is54 : Is Try.prog 54 a_in := Is.mk' n_in Try.func54 (by kernel_rfl) (by kernel_rfl)
def G15 : Gam := G14.addX 54 c_in
theorem gs15 : GS Try.prog G15 := GS.addX gs14 (s_in mixed gs14 is54)
theorem is55 : Is Try.prog 55 (a_isMost 54) := Is.mk' n_isMost Try.func55 (by kernel_rfl) (by kernel_rfl)
def G16 : Gam := G15.addX 55 c_isMost
theorem gs16 : GS Try.prog G16 := GS.addX gs15 (s_isMost mixed gs15 is55 rfl)
theorem is74 : Is Try.prog 74 a_Clone := Is.mk' n_Clone Try.func74 (by kernel_rfl) (by kernel_rfl)
def G17 : Gam := G16.addX 74 c_Clone
theorem gs17 : GS Try.prog G17 := GS.addX gs16 (s_Clone mixed gs16 is74)
theorem is87 : Is Try.prog 87 (a_splits 74) := Is.mk' n_splits Try.func87 (by kernel_rfl) (by kernel_rfl)
def G18 : Gam := G17.addX 87 c_splits
theorem gs18 : GS Try.prog G18 := GS.addX gs17 (s_splits mixed gs17 is87 rfl)
theorem is83 : Is Try.prog 83 a_tripleOf := Is.mk' n_tripleOf Try.func83 (by kernel_rfl) (by kernel_rfl)
def G19 : Gam := G18.addX 83 c_tripleOf
theorem gs19 : GS Try.prog G19 := GS.addX gs18 (s_tripleOf mixed gs18 is83)
theorem is76 : Is Try.prog 76 a_left := Is.mk' n_left Try.func76 (by kernel_rfl) (by kernel_rfl)
def G20 : Gam := G19.addX 76 c_left
theorem gs20 : GS Try.prog G20 := GS.addX gs19 (s_left mixed gs19 is76)
theorem is75 : Is Try.prog 75 (a_moved 74) := Is.mk' n_moved Try.func75 (by kernel_rfl) (by kernel_rfl)
def G21 : Gam := G20.addX 75 c_moved
theorem gs21 : GS Try.prog G21 := GS.addX gs20 (s_moved mixed gs20 is75 rfl)
theorem is48 : Is Try.prog 48 (a_oneWay 74 76 75) := Is.mk' n_oneWay Try.func48 (by kernel_rfl) (by kernel_rfl)
def G22 : Gam := G21.addX 48 c_oneWay
theorem gs22 : GS Try.prog G22 := GS.addX gs21 (s_oneWay mixed gs21 is48 rfl rfl rfl)
theorem is92 : Is Try.prog 92 (a_needs1 83) := Is.mk' n_needs1 Try.func92 (by kernel_rfl) (by kernel_rfl)
noncomputable def G23 : Gam := G22.addX 92 (c_needs1 G22)
theorem gs23 : GS Try.prog G23 := GS.addX gs22 (s_needs1 mixed gs22 is92 rfl)
theorem is96 : Is Try.prog 96 a_IndexFuncS := Is.mk' n_IndexFuncS Try.func96 (by kernel_rfl) (by kernel_rfl)
noncomputable def G24 : Gam := G23.addX 96 (c_IndexFuncS G23)
theorem gs24 : GS Try.prog G24 := GS.addX gs23 (s_IndexFuncS mixed gs23 is96)
theorem is91 : Is Try.prog 91 (a_ContainsFuncS 96) := Is.mk' n_ContainsFuncS Try.func91 (by kernel_rfl) (by kernel_rfl)
noncomputable def G25 : Gam := G24.addX 91 (c_ContainsFuncS G23)
theorem gs25 : GS Try.prog G25 := GS.addX gs24 (s_ContainsFuncS (Γ0 := G23) mixed gs24 is91 rfl)
theorem is98 : Is Try.prog 98 a_IndexT := Is.mk' n_IndexT Try.func98 (by kernel_rfl) (by kernel_rfl)
noncomputable def G26 : Gam := G25.addX 98 c_IndexT
theorem gs26 : GS Try.prog G26 := GS.addX gs25 (s_IndexT mixed gs25 is98)
theorem is95 : Is Try.prog 95 (a_ContainsT 98) := Is.mk' n_ContainsT Try.func95 (by kernel_rfl) (by kernel_rfl)
noncomputable def G27 : Gam := G26.addX 95 c_ContainsT
theorem gs27 : GS Try.prog G27 := GS.addX gs26 (s_ContainsT mixed gs26 is95 rfl)
theorem is94 : Is Try.prog 94 (a_needs2 95) := Is.mk' n_needs2 Try.func94 (by kernel_rfl) (by kernel_rfl)
noncomputable def G28 : Gam := G27.addX 94 c_needs2
theorem gs28 : GS Try.prog G28 := GS.addX gs27 (s_needs2 mixed gs27 is94 rfl)
theorem is97 : Is Try.prog 97 a_IndexFuncT := Is.mk' n_IndexFuncT Try.func97 (by kernel_rfl) (by kernel_rfl)
noncomputable def G29 : Gam := G28.addX 97 (c_IndexFuncT G28)
theorem gs29 : GS Try.prog G29 := GS.addX gs28 (s_IndexFuncT mixed gs28 is97)
theorem is93 : Is Try.prog 93 (a_DelT 97) := Is.mk' n_DelT Try.func93 (by kernel_rfl) (by kernel_rfl)
noncomputable def G30 : Gam := G29.addX 93 (c_DelT G28 G29)
theorem gs30 : GS Try.prog G30 := GS.addX gs29 (s_DelT (Γ0 := G28) mixed gs29 is93 rfl)
theorem is81 : Is Try.prog 81 (a_needs 87 92 91 94 93) := Is.mk' n_needs Try.func81 (by kernel_rfl) (by kernel_rfl)
noncomputable def G31 : Gam := G30.addX 81 (c_needs G22)
theorem gs31 : GS Try.prog G31 := GS.addX gs30 (s_needs (Γ0 := G23) (Γ1 := G22) (Γ2 := G28) (Γ3 := G29) mixed gs30 is81 rfl rfl rfl rfl rfl rfl)
theorem is56 : Is Try.prog 56 (a_neederOf 81) := Is.mk' n_neederOf Try.func56 (by kernel_rfl) (by kernel_rfl)
noncomputable def G32 : Gam := G31.addX 56 (c_neederOf G22)
theorem gs32 : GS Try.prog G32 := GS.addX gs31 (s_neederOf (Γ1 := G22) mixed gs31 is56 rfl)
theorem is82 : Is Try.prog 82 a_countsOf := Is.mk' n_countsOf Try.func82 (by kernel_rfl) (by kernel_rfl)
noncomputable def G33 : Gam := G32.addX 82 c_countsOf
theorem gs33 : GS Try.prog G33 := GS.addX gs32 (s_countsOf mixed gs32 is82)
theorem is60 : Is Try.prog 60 (a_nOf 83) := Is.mk' n_nOf Try.func60 (by kernel_rfl) (by kernel_rfl)
noncomputable def G34 : Gam := G33.addX 60 c_nOf
theorem gs34 : GS Try.prog G34 := GS.addX gs33 (s_nOf mixed gs33 is60 rfl)
theorem is61 : Is Try.prog 61 (a_nTable 82 60) := Is.mk' n_nTable Try.func61 (by kernel_rfl) (by kernel_rfl)
noncomputable def G35 : Gam := G34.addX 61 c_nTable
theorem gs35 : GS Try.prog G35 := GS.addX gs34 (s_nTable mixed gs34 is61 rfl rfl)
theorem is34 : Is Try.prog 34 (a_OneWayTable 55 56 48 61) := Is.mk' n_OneWayTable Try.func34 (by kernel_rfl) (by kernel_rfl)
noncomputable def G36 : Gam := G35.addX 34 c_OneWayTable
theorem gs36 : GS Try.prog G36 := GS.addX gs35 (s_OneWayTable (Γ1 := G22) mixed gs35 is34 rfl rfl rfl rfl)
theorem is18 : Is Try.prog 18 a_eqIntS := Is.mk' n_eqIntS Try.func18 (by kernel_rfl) (by kernel_rfl)
noncomputable def G37 : Gam := G36.addX 18 c_eqIntS
theorem gs37 : GS Try.prog G37 := GS.addX gs36 (s_eqIntS mixed gs36 is18)
theorem is19 : Is Try.prog 19 a_markIntS := Is.mk' n_markIntS Try.func19 (by kernel_rfl) (by kernel_rfl)
noncomputable def G38 : Gam := G37.addX 19 c_markIntS
theorem gs38 : GS Try.prog G38 := GS.addX gs37 (s_markIntS mixed gs37 is19)
theorem is20 : Is Try.prog 20 a_heldIntS := Is.mk' n_heldIntS Try.func20 (by kernel_rfl) (by kernel_rfl)
noncomputable def G39 : Gam := G38.addX 20 c_heldIntS
theorem gs39 : GS Try.prog G39 := GS.addX gs38 (s_heldIntS mixed gs38 is20)
theorem is10 : Is Try.prog 10 (a_x_OneWayTable 33 34 18 19 20) := Is.mk' n_x_OneWayTable Try.func10 (by kernel_rfl) (by kernel_rfl)
theorem law : Says Try.prog 10 c_x_OneWayTable := s_x_OneWayTable mixed gs39 is10 rfl rfl rfl rfl rfl
theorem own : ownKnob Try.prog.godebug = none := by kernel_rfl
theorem laidOut : laidOutB Try.prog = true := by kernel_rfl
set_option maxRecDepth 100000 in
theorem lifted (os : Os) (started : os.Started) (H : Type) (enc : TypeId × Value → H) :
    ReturnsInHanded {} Try.checked os 10 .any (Rows.fnExactOneWayTableSpec.pre6 enc Try.prog Try.f10 Rows.fnExactOneWayTableRow.domain false) (Rows.fnExactOneWayTableSpec.post enc Try.prog Try.f10 false true false false) := by
  refine returnsInHanded_of_change (C := Try.checked) own started (by kernel_rfl) Try.func10
    (ChangeSpec.witness6 (enc := enc) (C := Try.checked) false ⟨#[], #[.int .i64 0], []⟩ 8 (by kernel_rfl) (by kernel_rfl) (by kernel_rfl) (by kernel_rfl)) ?_
  intro W base args ds gs before hval0 hW _ _
  have hval : ∀ (j : Nat) t v, Try.f10.params[j]? = some t → args[j]? = some v → Value.okWide Try.prog W .any base t v := hval0
  obtain ⟨p, q, hA0, hV, _, _, _⟩ := id hW
  have hA : DataW.TrodAll enc Try.prog W 0 (fun _ => true) true Try.f10.params.toList args.toList ds p := hA0
  rw [Try.params10] at hA hval
  obtain ⟨v0, d0, rfl, rfl, h0⟩ := trodAll_one hA
  obtain ⟨n0, rg0, hp0⟩ := open_int' Try.underlying3 (hval 0 3 v0 rfl rfl)
  have hcon : c_x_OneWayTable ([.int .i64 n0].map .p) [] = some (.p (.bool true), [], []) := by simp [c_x_OneWayTable, pure']
  refine (calls_true (args := [.int .i64 n0]) (law _ _ _ _ _ hcon) rfl fun i hi => ?_).mono fun e W' ⟨he, hb⟩ => ⟨_, he, post_true hW rfl (fun l hl => ?_) laidOut (by kernel_rfl) (by kernel_rfl) Try.underlying4 hb⟩
  · match i, hi with
    | 0, _ => exact hp0
  · rw [Try.params10] at hl
    match l, hl with
    | [_], _ => rfl

theorem fnExactOneWayTable_holds : Rows.FnExactOneWayTableSaid :=
  OpenClaim.holds_of_wide 10 Try.f10 rfl rfl rfl rfl rfl rfl rfl ⟨rfl, rfl, rfl, rfl, rfl⟩ rfl rfl rfl rfl rfl (by kernel_rfl) Try.func10 (by kernel_rfl)
    (of_decide_eq_true (by kernel_rfl)) (by unfold Func.isWrapper; rw [if_neg (by decide +kernel)]; exact ⟨rfl, rfl⟩)
    (fun os started H enc _ => lifted os started H enc)
#print axioms fnExactOneWayTable_holds
end Go.Proofs.Ytmncbkkpchmjhaa
