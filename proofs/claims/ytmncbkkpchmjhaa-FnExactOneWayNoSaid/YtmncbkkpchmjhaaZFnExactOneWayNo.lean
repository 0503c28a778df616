/- FOR EVERY INPUT THE LAW 'FnExactOneWayNo' RETURNS TRUE, AND THE INPUT READS AS IT DID. No condition beyond the row's own. -/
import Derived.Test.YtmncbkkpchmjhaaChecked
import Derived.Test.YtmncbkkpchmjhaaRows
import Derived.Test.YtmncbkkpchmjhaaGaMA
set_option linter.unusedVariables false
set_option linter.unusedSimpArgs false
namespace Go.Proofs.Ytmncbkkpchmjhaa
open Go Go.Proofs Go.Proofs.Ytmncbkkpchmjhaa.Pam Go.ChangeShapes Go.WideShapes Go.ChangeAt Go.RowKit Go.Joins
theorem mixed : Try.prog.follows .mixedOrders = true := by kernel_rfl
def G0 : Gam := Gam.none
theorem gs0 : GS Try.prog G0 := GS.none
theorem is16 : Is Try.prog 16 a_toIntS := Is.mk' n_toIntS Try.func16 (by kernel_rfl) (by kernel_rfl)
def G1 : Gam := G0.addX 16 c_toIntS
theorem gs1 : GS Try.prog G1 := GS.addX gs0 (s_toIntS mixed gs0 is16)
theorem is50 : Is Try.prog 50 a_l1In := Is.mk' n_l1In Try.func50 (by kernel_rfl) (by kernel_rfl)
def G2 : Gam := G1.addX 50 c_in
theorem gs2 : GS Try.prog G2 := GS.addX gs1 (s_l1In mixed gs1 is50)
theorem is43 : Is Try.prog 43 (a_l4Counts 50) := Is.mk' n_l4Counts Try.func43 (by kernel_rfl) (by kernel_rfl)
def G3 : Gam := G2.addX 43 c_AreCounts
theorem gs3 : GS Try.prog G3 := GS.addX gs2 (s_l4Counts mixed gs2 is43 rfl)
theorem is44 : Is Try.prog 44 (a_l4Split 50) := Is.mk' n_l4Split Try.func44 (by kernel_rfl) (by kernel_rfl)
def G4 : Gam := G3.addX 44 c_isSplit
theorem gs4 : GS Try.prog G4 := GS.addX gs3 (s_l4Split mixed gs3 is44 rfl)
theorem is78 : Is Try.prog 78 a_l4Rest := Is.mk' n_l4Rest Try.func78 (by kernel_rfl) (by kernel_rfl)
def G5 : Gam := G4.addX 78 c_left
theorem gs5 : GS Try.prog G5 := GS.addX gs4 (s_l4Rest mixed gs4 is78)
theorem is45 : Is Try.prog 45 a_l1Own := Is.mk' n_l1Own Try.func45 (by kernel_rfl) (by kernel_rfl)
def G6 : Gam := G5.addX 45 c_Clone
theorem gs6 : GS Try.prog G6 := GS.addX gs5 (s_l1Own mixed gs5 is45)
theorem is77 : Is Try.prog 77 (a_l4Yes 78 45) := Is.mk' n_l4Yes Try.func77 (by kernel_rfl) (by kernel_rfl)
def G7 : Gam := G6.addX 77 c_l4Yes
theorem gs7 : GS Try.prog G7 := GS.addX gs6 (s_l4Yes mixed gs6 is77 rfl rfl)
theorem is49 : Is Try.prog 49 (a_l4No 78 77) := Is.mk' n_l4No Try.func49 (by kernel_rfl) (by kernel_rfl)
def G8 : Gam := G7.addX 49 c_l4No
theorem gs8 : GS Try.prog G8 := GS.addX gs7 (s_l4No mixed gs7 is49 rfl rfl)
theorem is21 : Is Try.prog 21 (a_s_OneWayNo 43 44 49) := Is.mk' n_s_OneWayNo Try.func21 (by kernel_rfl) (by kernel_rfl)
def G9 : Gam := G8.addX 21 c_s_OneWayNo
theorem gs9 : GS Try.prog G9 := GS.addX gs8 (s_s_OneWayNo mixed gs8 is21 rfl rfl rfl)
theorem is54 : Is Try.prog 54 a_in := Is.mk' n_in Try.func54 (by kernel_rfl) (by kernel_rfl)
def G10 : Gam := G9.addX 54 c_in
theorem gs10 : GS Try.prog G10 := GS.addX gs9 (s_in mixed gs9 is54)
theorem is72 : Is Try.prog 72 (a_AreCounts1 54) := Is.mk' n_AreCounts1 Try.func72 (by kernel_rfl) (by kernel_rfl)
def G11 : Gam := G10.addX 72 c_AreCounts1
theorem gs11 : GS Try.prog G11 := GS.addX gs10 (s_AreCounts1 mixed gs10 is72 rfl)
theorem is90 : Is Try.prog 90 a_IndexFunc := Is.mk' n_IndexFunc Try.func90 (by kernel_rfl) (by kernel_rfl)
def G12 : Gam := G11.addX 90 (c_IndexFunc G11)
theorem gs12 : GS Try.prog G12 := GS.addX gs11 (s_IndexFunc mixed gs11 is90)
theorem is71 : Is Try.prog 71 (a_ContainsFunc 90) := Is.mk' n_ContainsFunc Try.func71 (by kernel_rfl) (by kernel_rfl)
def G13 : Gam := G12.addX 71 (c_ContainsFunc G11)
theorem gs13 : GS Try.prog G13 := GS.addX gs12 (s_ContainsFunc (Γ0 := G11) mixed gs12 is71 rfl)
theorem is73 : Is Try.prog 73 a_sum := Is.mk' n_sum Try.func73 (by kernel_rfl) (by kernel_rfl)
def G14 : Gam := G13.addX 73 c_sum
theorem gs14 : GS Try.prog G14 := GS.addX gs13 (s_sum mixed gs13 is73)
theorem is46 : Is Try.prog 46 (a_AreCounts 54 71 72 73) := Is.mk' n_AreCounts Try.func46 (by kernel_rfl) (by kernel_rfl)
def G15 : Gam := G14.addX 46 c_AreCounts
theorem gs15 : GS Try.prog G15 := GS.addX gs14 (s_AreCounts (Γ0 := G11) mixed gs14 is46 rfl rfl rfl rfl)
theorem is47 : Is Try.prog 47 (a_isSplit 54) := Is.mk' n_isSplit Try.func47 (by kernel_rfl) (by kernel_rfl)
def G16 : Gam := G15.addX 47 c_isSplit
theorem gs16 : GS Try.prog G16 := GS.addX gs15 (s_isSplit mixed gs15 is47 rfl)
theorem is74 : Is Try.prog 74 a_Clone := Is.mk' n_Clone Try.func74 (by kernel_rfl) (by kernel_rfl)
def G17 : Gam := G16.addX 74 c_Clone
theorem gs17 : GS Try.prog G17 := GS.addX gs16 (s_Clone mixed gs16 is74)
theorem is76 : Is Try.prog 76 a_left := Is.mk' n_left Try.func76 (by kernel_rfl) (by kernel_rfl)
def G18 : Gam := G17.addX 76 c_left
theorem gs18 : GS Try.prog G18 := GS.addX gs17 (s_left mixed gs17 is76)
theorem is75 : Is Try.prog 75 (a_moved 74) := Is.mk' n_moved Try.func75 (by kernel_rfl) (by kernel_rfl)
def G19 : Gam := G18.addX 75 c_moved
theorem gs19 : GS Try.prog G19 := GS.addX gs18 (s_moved mixed gs18 is75 rfl)
theorem is48 : Is Try.prog 48 (a_oneWay 74 76 75) := Is.mk' n_oneWay Try.func48 (by kernel_rfl) (by kernel_rfl)
def G20 : Gam := G19.addX 48 c_oneWay
theorem gs20 : GS Try.prog G20 := GS.addX gs19 (s_oneWay mixed gs19 is48 rfl rfl rfl)
theorem is22 : Is Try.prog 22 (a_OneWayNo 46 47 48) := Is.mk' n_OneWayNo Try.func22 (by kernel_rfl) (by kernel_rfl)
def G21 : Gam := G20.addX 22 c_OneWayNo
theorem gs21 : GS Try.prog G21 := GS.addX gs20 (s_OneWayNo mixed gs20 is22 rfl rfl rfl)
theorem is18 : Is Try.prog 18 a_eqIntS := Is.mk' n_eqIntS Try.func18 (by kernel_rfl) (by kernel_rfl)
def G22 : Gam := G21.addX 18 c_eqIntS
theorem gs22 : GS Try.prog G22 := GS.addX gs21 (s_eqIntS mixed gs21 is18)
theorem is19 : Is Try.prog 19 a_markIntS := Is.mk' n_markIntS Try.func19 (by kernel_rfl) (by kernel_rfl)
def G23 : Gam := G22.addX 19 c_markIntS
theorem gs23 : GS Try.prog G23 := GS.addX gs22 (s_markIntS mixed gs22 is19)
theorem is20 : Is Try.prog 20 a_heldIntS := Is.mk' n_heldIntS Try.func20 (by kernel_rfl) (by kernel_rfl)
def G24 : Gam := G23.addX 20 c_heldIntS
theorem gs24 : GS Try.prog G24 := GS.addX gs23 (s_heldIntS mixed gs23 is20)
theorem is4 : Is Try.prog 4 (a_x_OneWayNo 16 21 22 18 19 20) := Is.mk' n_x_OneWayNo Try.func4 (by kernel_rfl) (by kernel_rfl)
theorem law : Says Try.prog 4 c_x_OneWayNo := s_x_OneWayNo mixed gs24 is4 rfl rfl rfl rfl rfl rfl
theorem own : ownKnob Try.prog.godebug = none := by kernel_rfl
theorem laidOut : laidOutB Try.prog = true := by kernel_rfl
set_option maxRecDepth 100000 in
theorem lifted (os : Os) (started : os.Started) (H : Type) (enc : TypeId × Value → H) :
    ReturnsInHanded {} Try.checked os 4 .any (Rows.fnExactOneWayNoSpec.pre6 enc Try.prog Try.f4 Rows.fnExactOneWayNoRow.domain false) (Rows.fnExactOneWayNoSpec.post enc Try.prog Try.f4 false true false false) := by
  refine returnsInHanded_of_change (C := Try.checked) own started (by kernel_rfl) Try.func4
    (ChangeSpec.witness6 (enc := enc) (C := Try.checked) false ⟨#[], #[.slice none 0 0, .slice none 0 0], []⟩ 8 (by kernel_rfl) (by kernel_rfl) (by kernel_rfl) (by kernel_rfl)) ?_
  intro W base args ds gs before hval0 hW _ _
  have hval : ∀ (j : Nat) t v, Try.f4.params[j]? = some t → args[j]? = some v → Value.okWide Try.prog W .any base t v := hval0
  obtain ⟨p, q, hA0, hV, _, _, _⟩ := id hW
  have hA : DataW.TrodAll enc Try.prog W 0 (fun _ => true) true Try.f4.params.toList args.toList ds p := hA0
  rw [Try.params4] at hA hval
  obtain ⟨v0, v1, d0, d1, p0, p1, rfl, rfl, rfl, h0, h1⟩ := trodAll_two hA
  obtain ⟨pv0, l0, sl0, le0, hp0⟩ := open_intsV Try.underlying22 Try.underlying3 (by kernel_rfl) (hval 0 22 v0 rfl rfl) h0
  obtain ⟨pv1, l1, sl1, le1, hp1⟩ := open_intsV Try.underlying22 Try.underlying3 (by kernel_rfl) (hval 1 22 v1 rfl rfl) h1
  have hcon : c_x_OneWayNo ([pv0, pv1].map .p) [] = some (.p (.bool true), [], []) := by simp [c_x_OneWayNo, pure', sl0, le0, sl1, le1]
  refine (calls_true (args := [pv0, pv1]) (law _ _ _ _ _ hcon) rfl fun i hi => ?_).mono fun e W' ⟨he, hb⟩ => ⟨_, he, post_true hW rfl (fun l hl => ?_) laidOut (by kernel_rfl) (by kernel_rfl) Try.underlying4 hb⟩
  · match i, hi with
    | 0, _ => exact hp0
    | 1, _ => exact hp1
  · rw [Try.params4] at hl
    match l, hl with
    | [_, _], _ => rfl

theorem fnExactOneWayNo_holds : Rows.FnExactOneWayNoSaid :=
  OpenClaim.holds_of_wide 4 Try.f4 rfl rfl rfl rfl rfl rfl rfl ⟨rfl, rfl, rfl, rfl, rfl⟩ rfl rfl rfl rfl rfl (by kernel_rfl) Try.func4 (by kernel_rfl)
    (of_decide_eq_true (by kernel_rfl)) (by unfold Func.isWrapper; rw [if_neg (by decide +kernel)]; exact ⟨rfl, rfl⟩)
    (fun os started H enc _ => lifted os started H enc)
#print axioms fnExactOneWayNo_holds
end Go.Proofs.Ytmncbkkpchmjhaa
