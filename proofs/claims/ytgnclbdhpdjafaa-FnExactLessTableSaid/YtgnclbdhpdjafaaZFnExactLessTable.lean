/- FOR EVERY INPUT THE LAW 'FnExactLessTable' RETURNS TRUE, AND THE INPUT READS AS IT DID. No condition beyond the row's own. -/
import Derived.Test.YtgnclbdhpdjafaaChecked
import Derived.Test.YtgnclbdhpdjafaaRows
import Derived.Test.YtgnclbdhpdjafaaGaNG
set_option linter.unusedVariables false
set_option linter.unusedSimpArgs false
namespace Go.Proofs.Ytgnclbdhpdjafaa
open Go Go.Proofs Go.Proofs.Ytgnclbdhpdjafaa.Pam Go.ChangeShapes Go.WideShapes Go.ChangeAt Go.RowKit Go.Joins
theorem mixed : Try.prog.follows .mixedOrders = true := by kernel_rfl
def G0 : Gam := Gam.none
theorem gs0 : GS Try.prog G0 := GS.none
theorem is34 : Is Try.prog 34 a_l1In := Is.mk' n_l1In Try.func34 (by kernel_rfl) (by kernel_rfl)
def G1 : Gam := G0.addX 34 c_in
theorem gs1 : GS Try.prog G1 := GS.addX gs0 (s_l1In mixed gs0 is34)
theorem is37 : Is Try.prog 37 a_start := Is.mk' n_start Try.func37 (by kernel_rfl) (by kernel_rfl)
def G2 : Gam := G1.addX 37 c_start
theorem gs2 : GS Try.prog G2 := GS.addX gs1 (s_start mixed gs1 is37)
theorem is62 : Is Try.prog 62 (a_l6Of 37) := Is.mk' n_l6Of Try.func62 (by kernel_rfl) (by kernel_rfl)
def G3 : Gam := G2.addX 62 c_l6Of
theorem gs3 : GS Try.prog G3 := GS.addX gs2 (s_l6Of mixed gs2 is62 rfl)
theorem is66 : Is Try.prog 66 a_l2Open := Is.mk' n_l2Open Try.func66 (by kernel_rfl) (by kernel_rfl)
def G4 : Gam := G3.addX 66 c_l2Open
theorem gs4 : GS Try.prog G4 := GS.addX gs3 (s_l2Open mixed gs3 is66)
theorem is46 : Is Try.prog 46 (a_l6Done 66) := Is.mk' n_l6Done Try.func46 (by kernel_rfl) (by kernel_rfl)
def G5 : Gam := G4.addX 46 c_l6Done
theorem gs5 : GS Try.prog G5 := GS.addX gs4 (s_l6Done mixed gs4 is46 rfl)
theorem is77 : Is Try.prog 77 a_l1Own := Is.mk' n_l1Own Try.func77 (by kernel_rfl) (by kernel_rfl)
def G6 : Gam := G5.addX 77 c_Clone
theorem gs6 : GS Try.prog G6 := GS.addX gs5 (s_l1Own mixed gs5 is77)
theorem is78 : Is Try.prog 78 a_l2False := Is.mk' n_l2False Try.func78 (by kernel_rfl) (by kernel_rfl)
def G7 : Gam := G6.addX 78 c_l2False
theorem gs7 : GS Try.prog G7 := GS.addX gs6 (s_l2False mixed gs6 is78)
theorem is71 : Is Try.prog 71 (a_l2After 77 78) := Is.mk' n_l2After Try.func71 (by kernel_rfl) (by kernel_rfl)
def G8 : Gam := G7.addX 71 c_l2After
theorem gs8 : GS Try.prog G8 := GS.addX gs7 (s_l2After mixed gs7 is71 rfl rfl)
theorem is55 : Is Try.prog 55 (a_l6After 71) := Is.mk' n_l6After Try.func55 (by kernel_rfl) (by kernel_rfl)
def G9 : Gam := G8.addX 55 c_l6After
theorem gs9 : GS Try.prog G9 := GS.addX gs8 (s_l6After mixed gs8 is55 rfl)
theorem is36 : Is Try.prog 36 a_l6Key := Is.mk' n_l6Key Try.func36 (by kernel_rfl) (by kernel_rfl)
def G10 : Gam := G9.addX 36 c_l6Key
theorem gs10 : GS Try.prog G10 := GS.addX gs9 (s_l6Key mixed gs9 is36)
theorem is35 : Is Try.prog 35 (a_l6Needs 62 46 55 36) := Is.mk' n_l6Needs Try.func35 (by kernel_rfl) (by kernel_rfl)
def G11 : Gam := G10.addX 35 c_l6Needs
theorem gs11 : GS Try.prog G11 := GS.addX gs10 (s_l6Needs mixed gs10 is35 rfl rfl rfl rfl)
theorem is9 : Is Try.prog 9 (a_s_LessTable 34 35 37 36) := Is.mk' n_s_LessTable Try.func9 (by kernel_rfl) (by kernel_rfl)
def G12 : Gam := G11.addX 9 c_s_LessTable
theorem gs12 : GS Try.prog G12 := GS.addX gs11 (s_s_LessTable mixed gs11 is9 rfl rfl rfl rfl)
theorem is38 : Is Try.prog 38 a_in := Is.mk' n_in Try.func38 (by kernel_rfl) (by kernel_rfl)
def G13 : Gam := G12.addX 38 c_in
theorem gs13 : GS Try.prog G13 := GS.addX gs12 (s_in mixed gs12 is38)
theorem is39 : Is Try.prog 39 a_newLesser := Is.mk' n_newLesser Try.func39 (by kernel_rfl) (by kernel_rfl)
def G14 : Gam := G13.addX 39 c_newLesser
theorem gs14 : GS Try.prog G14 := GS.addX gs13 (s_newLesser mixed gs13 is39)
theorem is41 : Is Try.prog 41 a_start := Is.mk' n_start Try.func41 (by kernel_rfl) (by kernel_rfl)
def G15 : Gam := G14.addX 41 c_start
theorem gs15 : GS Try.prog G15 := GS.addX gs14 (s_start mixed gs14 is41)
theorem is51 : Is Try.prog 51 a_opened := Is.mk' n_opened Try.func51 (by kernel_rfl) (by kernel_rfl)
def G16 : Gam := G15.addX 51 c_l2Open
theorem gs16 : GS Try.prog G16 := GS.addX gs15 (s_opened mixed gs15 is51)
theorem is63 : Is Try.prog 63 a_codeS := Is.mk' n_codeS Try.func63 (by kernel_rfl) (by kernel_rfl)
def G17 : Gam := G16.addX 63 c_codeS
theorem gs17 : GS Try.prog G17 := GS.addX gs16 (s_codeS mixed gs16 is63)
theorem is57 : Is Try.prog 57 a_less := Is.mk' n_less Try.func57 (by kernel_rfl) (by kernel_rfl)
def G18 : Gam := G17.addX 57 c_less
theorem gs18 : GS Try.prog G18 := GS.addX gs17 (s_less mixed gs17 is57)
theorem is59 : Is Try.prog 59 a_has := Is.mk' n_has Try.func59 (by kernel_rfl) (by kernel_rfl)
def G19 : Gam := G18.addX 59 c_has
theorem gs19 : GS Try.prog G19 := GS.addX gs18 (s_has mixed gs18 is59)
theorem is73 : Is Try.prog 73 (a_isFalse 59) := Is.mk' n_isFalse Try.func73 (by kernel_rfl) (by kernel_rfl)
def G20 : Gam := G19.addX 73 c_isFalse
theorem gs20 : GS Try.prog G20 := GS.addX gs19 (s_isFalse mixed gs19 is73 rfl)
theorem is79 : Is Try.prog 79 a_Clone := Is.mk' n_Clone Try.func79 (by kernel_rfl) (by kernel_rfl)
def G21 : Gam := G20.addX 79 c_Clone
theorem gs21 : GS Try.prog G21 := GS.addX gs20 (s_Clone mixed gs20 is79)
theorem is72 : Is Try.prog 72 (a_after 79) := Is.mk' n_after Try.func72 (by kernel_rfl) (by kernel_rfl)
def G22 : Gam := G21.addX 72 (c_after G21)
theorem gs22 : GS Try.prog G22 := GS.addX gs21 (s_after mixed gs21 is72 rfl)
theorem is60 : Is Try.prog 60 (a_answered 73 72) := Is.mk' n_answered Try.func60 (by kernel_rfl) (by kernel_rfl)
def G23 : Gam := G22.addX 60 c_answered
theorem gs23 : GS Try.prog G23 := GS.addX gs22 (s_answered (Γ0 := G21) mixed gs22 is60 rfl rfl)
theorem is56 : Is Try.prog 56 (a_bothA 60) := Is.mk' n_bothA Try.func56 (by kernel_rfl) (by kernel_rfl)
def G24 : Gam := G23.addX 56 c_bothA
theorem gs24 : GS Try.prog G24 := GS.addX gs23 (s_bothA mixed gs23 is56 rfl)
theorem is70 : Is Try.prog 70 (a_isEqualS 63) := Is.mk' n_isEqualS Try.func70 (by kernel_rfl) (by kernel_rfl)
def G25 : Gam := G24.addX 70 c_isEqualS
theorem gs25 : GS Try.prog G25 := GS.addX gs24 (s_isEqualS mixed gs24 is70 rfl)
theorem is52 : Is Try.prog 52 (a_lof 57 56 70 40) := Is.mk' n_lof Try.func52 (by kernel_rfl) (by kernel_rfl)
theorem is40 : Is Try.prog 40 (a_lneed 51 63 52) := Is.mk' n_lneed Try.func40 (by kernel_rfl) (by kernel_rfl)
noncomputable def G26 : Gam := G25.addX 40 c_lneed
theorem gs26 : GS Try.prog G26 := GS.addX gs25 (s_lneed mixed gs25 is40 is52 (by decide) rfl rfl rfl rfl rfl)
noncomputable def G27 : Gam := G26.addX 52 c_lof
theorem gs27 : GS Try.prog G27 := GS.addX gs26 (s_lof mixed gs26 is52 rfl rfl rfl rfl)
theorem is10 : Is Try.prog 10 (a_LessTable 38 39 41 40) := Is.mk' n_LessTable Try.func10 (by kernel_rfl) (by kernel_rfl)
noncomputable def G28 : Gam := G27.addX 10 c_LessTable
theorem gs28 : GS Try.prog G28 := GS.addX gs27 (s_LessTable mixed gs27 is10 rfl rfl rfl rfl)
theorem is11 : Is Try.prog 11 a_eqIntS := Is.mk' n_eqIntS Try.func11 (by kernel_rfl) (by kernel_rfl)
noncomputable def G29 : Gam := G28.addX 11 c_eqIntS
theorem gs29 : GS Try.prog G29 := GS.addX gs28 (s_eqIntS mixed gs28 is11)
theorem is12 : Is Try.prog 12 a_markIntS := Is.mk' n_markIntS Try.func12 (by kernel_rfl) (by kernel_rfl)
noncomputable def G30 : Gam := G29.addX 12 c_markIntS
theorem gs30 : GS Try.prog G30 := GS.addX gs29 (s_markIntS mixed gs29 is12)
theorem is13 : Is Try.prog 13 a_heldIntS := Is.mk' n_heldIntS Try.func13 (by kernel_rfl) (by kernel_rfl)
noncomputable def G31 : Gam := G30.addX 13 c_heldIntS
theorem gs31 : GS Try.prog G31 := GS.addX gs30 (s_heldIntS mixed gs30 is13)
theorem is3 : Is Try.prog 3 (a_x_LessTable 9 10 11 12 13) := Is.mk' n_x_LessTable Try.func3 (by kernel_rfl) (by kernel_rfl)
theorem law : Says Try.prog 3 c_x_LessTable := s_x_LessTable mixed gs31 is3 rfl rfl rfl rfl rfl
theorem own : ownKnob Try.prog.godebug = none := by kernel_rfl
theorem laidOut : laidOutB Try.prog = true := by kernel_rfl
set_option maxRecDepth 100000 in
theorem lifted (os : Os) (started : os.Started) (H : Type) (enc : TypeId × Value → H) :
    ReturnsInHanded {} Try.checked os 3 .any (Rows.fnExactLessTableSpec.pre6 enc Try.prog Try.f3 Rows.fnExactLessTableRow.domain false) (Rows.fnExactLessTableSpec.post enc Try.prog Try.f3 false true false false) := by
  refine returnsInHanded_of_change (C := Try.checked) own started (by kernel_rfl) Try.func3
    (ChangeSpec.witness6 (enc := enc) (C := Try.checked) false ⟨#[], #[.int .i64 0], []⟩ 8 (by kernel_rfl) (by kernel_rfl) (by kernel_rfl) (by kernel_rfl)) ?_
  intro W base args ds gs before hval0 hW _ _
  have hval : ∀ (j : Nat) t v, Try.f3.params[j]? = some t → args[j]? = some v → Value.okWide Try.prog W .any base t v := hval0
  obtain ⟨p, q, hA0, hV, _, _, _⟩ := id hW
  have hA : DataW.TrodAll enc Try.prog W 0 (fun _ => true) true Try.f3.params.toList args.toList ds p := hA0
  rw [Try.params3] at hA hval
  obtain ⟨v0, d0, rfl, rfl, h0⟩ := trodAll_one hA
  obtain ⟨n0, rg0, hp0⟩ := open_int' Try.underlying3 (hval 0 3 v0 rfl rfl)
  have hcon : c_x_LessTable ([.int .i64 n0].map .p) [] = some (.p (.bool true), [], []) := by simp [c_x_LessTable, pure']
  refine (calls_true (args := [.int .i64 n0]) (law _ _ _ _ _ hcon) rfl fun i hi => ?_).mono fun e W' ⟨he, hb⟩ => ⟨_, he, post_true hW rfl (fun l hl => ?_) laidOut (by kernel_rfl) (by kernel_rfl) Try.underlying4 hb⟩
  · match i, hi with
    | 0, _ => exact hp0
  · rw [Try.params3] at hl
    match l, hl with
    | [_], _ => rfl

theorem fnExactLessTable_holds : Rows.FnExactLessTableSaid :=
  OpenClaim.holds_of_wide 3 Try.f3 rfl rfl rfl rfl rfl rfl rfl ⟨rfl, rfl, rfl, rfl, rfl⟩ rfl rfl rfl rfl rfl (by kernel_rfl) Try.func3 (by kernel_rfl)
    (of_decide_eq_true (by kernel_rfl)) (by unfold Func.isWrapper; rw [if_neg (by decide +kernel)]; exact ⟨rfl, rfl⟩)
    (fun os started H enc _ => lifted os started H enc)
#print axioms fnExactLessTable_holds
end Go.Proofs.Ytgnclbdhpdjafaa
