/- FOR EVERY INPUT THE LAW 'FnOneWayNeeds' RETURNS TRUE, AND THE INPUT READS AS IT DID. No condition beyond the row's own. -/
import Derived.Test.YtihpfhdkjlphhaaChecked
import Derived.Test.YtihpfhdkjlphhaaRows
import Derived.Test.YtihpfhdkjlphhaaGgOK
set_option linter.unusedVariables false
set_option linter.unusedSimpArgs false
namespace Go.Proofs.Ytihpfhdkjlphhaa
open Go Go.Proofs Go.Proofs.Ytihpfhdkjlphhaa.Pam Go.ChangeShapes Go.WideShapes Go.ChangeAt Go.RowKit Go.Joins
theorem mixed : Try.prog.follows .mixedOrders = true := by kernel_rfl
def G0 : Gam := Gam.none
theorem gs0 : GS Try.prog G0 := GS.none
theorem is12 : Is Try.prog 12 a_rBig := Is.mk' n_rBig Try.func12 (by kernel_rfl) (by kernel_rfl)
def G1 : Gam := G0.addX 12 c_rBig
theorem gs1 : GS Try.prog G1 := GS.addX gs0 (s_rBig mixed gs0 is12)
theorem is177 : Is Try.prog 177 a_next := Is.mk' n_next Try.func177 (by kernel_rfl) (by kernel_rfl)
def G2 : Gam := G1.addX 177 c_next
theorem gs2 : GS Try.prog G2 := GS.addX gs1 (s_next mixed gs1 is177)
theorem is166 : Is Try.prog 166 (a_pick 177) := Is.mk' n_pick Try.func166 (by kernel_rfl) (by kernel_rfl)
def G3 : Gam := G2.addX 166 c_pick
theorem gs3 : GS Try.prog G3 := GS.addX gs2 (s_pick mixed gs2 is166 rfl)
theorem is152 : Is Try.prog 152 (a_among 166) := Is.mk' n_among Try.func152 (by kernel_rfl) (by kernel_rfl)
def G4 : Gam := G3.addX 152 c_among
theorem gs4 : GS Try.prog G4 := GS.addX gs3 (s_among mixed gs3 is152 rfl)
theorem is133 : Is Try.prog 133 (a_counts 152 166) := Is.mk' n_counts Try.func133 (by kernel_rfl) (by kernel_rfl)
def G5 : Gam := G4.addX 133 c_counts
theorem gs5 : GS Try.prog G5 := GS.addX gs4 (s_counts mixed gs4 is133 rfl rfl)
theorem is93 : Is Try.prog 93 (a_DrawAreCounts 133) := Is.mk' n_DrawAreCounts Try.func93 (by kernel_rfl) (by kernel_rfl)
def G6 : Gam := G5.addX 93 c_DrawAreCounts
theorem gs6 : GS Try.prog G6 := GS.addX gs5 (s_DrawAreCounts mixed gs5 is93 rfl)
theorem is28 : Is Try.prog 28 (a_DrawOneWayNeed 93) := Is.mk' n_DrawOneWayNeed Try.func28 (by kernel_rfl) (by kernel_rfl)
def G7 : Gam := G6.addX 28 c_DrawOneWayNeed
theorem gs7 : GS Try.prog G7 := GS.addX gs6 (s_DrawOneWayNeed mixed gs6 is28 rfl)
theorem is86 : Is Try.prog 86 a_in := Is.mk' n_in Try.func86 (by kernel_rfl) (by kernel_rfl)
def G8 : Gam := G7.addX 86 c_in
theorem gs8 : GS Try.prog G8 := GS.addX gs7 (s_in mixed gs7 is86)
theorem is88 : Is Try.prog 88 (a_AreCounts1 86) := Is.mk' n_AreCounts1 Try.func88 (by kernel_rfl) (by kernel_rfl)
def G9 : Gam := G8.addX 88 c_AreCounts1
theorem gs9 : GS Try.prog G9 := GS.addX gs8 (s_AreCounts1 mixed gs8 is88 rfl)
theorem is144 : Is Try.prog 144 a_IndexFunc := Is.mk' n_IndexFunc Try.func144 (by kernel_rfl) (by kernel_rfl)
def G10 : Gam := G9.addX 144 (c_IndexFunc G9)
theorem gs10 : GS Try.prog G10 := GS.addX gs9 (s_IndexFunc mixed gs9 is144)
theorem is87 : Is Try.prog 87 (a_ContainsFunc 144) := Is.mk' n_ContainsFunc Try.func87 (by kernel_rfl) (by kernel_rfl)
def G11 : Gam := G10.addX 87 (c_ContainsFunc G9)
theorem gs11 : GS Try.prog G11 := GS.addX gs10 (s_ContainsFunc (Γ0 := G9) mixed gs10 is87 rfl)
theorem is89 : Is Try.prog 89 a_sumC := Is.mk' n_sumC Try.func89 (by kernel_rfl) (by kernel_rfl)
def G12 : Gam := G11.addX 89 c_sumC
theorem gs12 : GS Try.prog G12 := GS.addX gs11 (s_sumC mixed gs11 is89)
theorem is23 : Is Try.prog 23 (a_AreCounts 86 87 88 89) := Is.mk' n_AreCounts Try.func23 (by kernel_rfl) (by kernel_rfl)
def G13 : Gam := G12.addX 23 c_AreCounts
theorem gs13 : GS Try.prog G13 := GS.addX gs12 (s_AreCounts (Γ0 := G9) mixed gs12 is23 rfl rfl rfl rfl)
theorem is149 : Is Try.prog 149 a_Clone := Is.mk' n_Clone Try.func149 (by kernel_rfl) (by kernel_rfl)
def G14 : Gam := G13.addX 149 c_Clone
theorem gs14 : GS Try.prog G14 := GS.addX gs13 (s_Clone mixed gs13 is149)
theorem is146 : Is Try.prog 146 (a_splits 149) := Is.mk' n_splits Try.func146 (by kernel_rfl) (by kernel_rfl)
def G15 : Gam := G14.addX 146 c_splits
theorem gs15 : GS Try.prog G15 := GS.addX gs14 (s_splits mixed gs14 is146 rfl)
theorem is143 : Is Try.prog 143 a_tripleOf := Is.mk' n_tripleOf Try.func143 (by kernel_rfl) (by kernel_rfl)
def G16 : Gam := G15.addX 143 c_tripleOf
theorem gs16 : GS Try.prog G16 := GS.addX gs15 (s_tripleOf mixed gs15 is143)
theorem is136 : Is Try.prog 136 a_left := Is.mk' n_left Try.func136 (by kernel_rfl) (by kernel_rfl)
def G17 : Gam := G16.addX 136 c_left
theorem gs17 : GS Try.prog G17 := GS.addX gs16 (s_left mixed gs16 is136)
theorem is137 : Is Try.prog 137 (a_moved 149) := Is.mk' n_moved Try.func137 (by kernel_rfl) (by kernel_rfl)
def G18 : Gam := G17.addX 137 c_moved
theorem gs18 : GS Try.prog G18 := GS.addX gs17 (s_moved mixed gs17 is137 rfl)
theorem is72 : Is Try.prog 72 (a_bothWays 136 137) := Is.mk' n_bothWays Try.func72 (by kernel_rfl) (by kernel_rfl)
def G19 : Gam := G18.addX 72 c_bothWays
theorem gs19 : GS Try.prog G19 := GS.addX gs18 (s_bothWays mixed gs18 is72 rfl rfl)
theorem is94 : Is Try.prog 94 (a_oneWay 149 136 137) := Is.mk' n_oneWay Try.func94 (by kernel_rfl) (by kernel_rfl)
def G20 : Gam := G19.addX 94 c_oneWay
theorem gs20 : GS Try.prog G20 := GS.addX gs19 (s_oneWay mixed gs19 is94 rfl rfl rfl)
theorem is169 : Is Try.prog 169 (a_needs1 143) := Is.mk' n_needs1 Try.func169 (by kernel_rfl) (by kernel_rfl)
noncomputable def G21 : Gam := G20.addX 169 (c_needs1 G20)
theorem gs21 : GS Try.prog G21 := GS.addX gs20 (s_needs1 mixed gs20 is169 rfl)
theorem is84 : Is Try.prog 84 (a_nOf 143) := Is.mk' n_nOf Try.func84 (by kernel_rfl) (by kernel_rfl)
noncomputable def G22 : Gam := G21.addX 84 c_nOf
theorem gs22 : GS Try.prog G22 := GS.addX gs21 (s_nOf mixed gs21 is84 rfl)
theorem is75 : Is Try.prog 75 (a_nSplit 84) := Is.mk' n_nSplit Try.func75 (by kernel_rfl) (by kernel_rfl)
noncomputable def G23 : Gam := G22.addX 75 (c_nSplit G22)
theorem gs23 : GS Try.prog G23 := GS.addX gs22 (s_nSplit mixed gs22 is75 rfl)
theorem is147 : Is Try.prog 147 (a_best1 75) := Is.mk' n_best1 Try.func147 (by kernel_rfl) (by kernel_rfl)
noncomputable def G24 : Gam := G23.addX 147 (c_best1 G22)
theorem gs24 : GS Try.prog G24 := GS.addX gs23 (s_best1 (Γ2 := G22) mixed gs23 is147 rfl)
theorem is173 : Is Try.prog 173 a_IndexFuncS := Is.mk' n_IndexFuncS Try.func173 (by kernel_rfl) (by kernel_rfl)
noncomputable def G25 : Gam := G24.addX 173 (c_IndexFuncS G24)
theorem gs25 : GS Try.prog G25 := GS.addX gs24 (s_IndexFuncS mixed gs24 is173)
theorem is168 : Is Try.prog 168 (a_ContainsFuncS 173) := Is.mk' n_ContainsFuncS Try.func168 (by kernel_rfl) (by kernel_rfl)
noncomputable def G26 : Gam := G25.addX 168 (c_ContainsFuncS G24)
theorem gs26 : GS Try.prog G26 := GS.addX gs25 (s_ContainsFuncS (Γ0 := G24) mixed gs25 is168 rfl)
theorem is179 : Is Try.prog 179 a_IndexT := Is.mk' n_IndexT Try.func179 (by kernel_rfl) (by kernel_rfl)
noncomputable def G27 : Gam := G26.addX 179 c_IndexT
theorem gs27 : GS Try.prog G27 := GS.addX gs26 (s_IndexT mixed gs26 is179)
theorem is172 : Is Try.prog 172 (a_ContainsT 179) := Is.mk' n_ContainsT Try.func172 (by kernel_rfl) (by kernel_rfl)
noncomputable def G28 : Gam := G27.addX 172 c_ContainsT
theorem gs28 : GS Try.prog G28 := GS.addX gs27 (s_ContainsT mixed gs27 is172 rfl)
theorem is171 : Is Try.prog 171 (a_needs2 172) := Is.mk' n_needs2 Try.func171 (by kernel_rfl) (by kernel_rfl)
noncomputable def G29 : Gam := G28.addX 171 c_needs2
theorem gs29 : GS Try.prog G29 := GS.addX gs28 (s_needs2 mixed gs28 is171 rfl)
theorem is178 : Is Try.prog 178 a_IndexFuncT := Is.mk' n_IndexFuncT Try.func178 (by kernel_rfl) (by kernel_rfl)
noncomputable def G30 : Gam := G29.addX 178 (c_IndexFuncT G29)
theorem gs30 : GS Try.prog G30 := GS.addX gs29 (s_IndexFuncT mixed gs29 is178)
theorem is170 : Is Try.prog 170 (a_DelT 178) := Is.mk' n_DelT Try.func170 (by kernel_rfl) (by kernel_rfl)
noncomputable def G31 : Gam := G30.addX 170 (c_DelT G29 G30)
theorem gs31 : GS Try.prog G31 := GS.addX gs30 (s_DelT (Γ0 := G29) mixed gs30 is170 rfl)
theorem is138 : Is Try.prog 138 (a_needs 146 169 168 171 170) := Is.mk' n_needs Try.func138 (by kernel_rfl) (by kernel_rfl)
noncomputable def G32 : Gam := G31.addX 138 (c_needs G20)
theorem gs32 : GS Try.prog G32 := GS.addX gs31 (s_needs (Γ0 := G24) (Γ1 := G20) (Γ2 := G29) (Γ3 := G30) mixed gs31 is138 rfl rfl rfl rfl rfl rfl)
theorem is74 : Is Try.prog 74 (a_neederOf 138) := Is.mk' n_neederOf Try.func74 (by kernel_rfl) (by kernel_rfl)
noncomputable def G33 : Gam := G32.addX 74 (c_neederOf G20)
theorem gs33 : GS Try.prog G33 := GS.addX gs32 (s_neederOf (Γ1 := G20) mixed gs32 is74 rfl)
theorem is29 : Is Try.prog 29 (a_OneWayNeed 23 74 94 84) := Is.mk' n_OneWayNeed Try.func29 (by kernel_rfl) (by kernel_rfl)
noncomputable def G34 : Gam := G33.addX 29 c_OneWayNeed
theorem gs34 : GS Try.prog G34 := GS.addX gs33 (s_OneWayNeed (Γ1 := G20) mixed gs33 is29 rfl rfl rfl rfl)
theorem is102 : Is Try.prog 102 a_l1In := Is.mk' n_l1In Try.func102 (by kernel_rfl) (by kernel_rfl)
noncomputable def G35 : Gam := G34.addX 102 c_in
theorem gs35 : GS Try.prog G35 := GS.addX gs34 (s_l1In mixed gs34 is102)
theorem is76 : Is Try.prog 76 (a_l4Counts 102) := Is.mk' n_l4Counts Try.func76 (by kernel_rfl) (by kernel_rfl)
noncomputable def G36 : Gam := G35.addX 76 c_AreCounts
theorem gs36 : GS Try.prog G36 := GS.addX gs35 (s_l4Counts mixed gs35 is76 rfl)
theorem is140 : Is Try.prog 140 a_l4Counted := Is.mk' n_l4Counted Try.func140 (by kernel_rfl) (by kernel_rfl)
noncomputable def G37 : Gam := G36.addX 140 c_l4Counted
theorem gs37 : GS Try.prog G37 := GS.addX gs36 (s_l4Counted mixed gs36 is140)
theorem is78 : Is Try.prog 78 a_l4Told := Is.mk' n_l4Told Try.func78 (by kernel_rfl) (by kernel_rfl)
noncomputable def G38 : Gam := G37.addX 78 c_isTold
theorem gs38 : GS Try.prog G38 := GS.addX gs37 (s_l4Told mixed gs37 is78)
theorem is91 : Is Try.prog 91 a_l1Own := Is.mk' n_l1Own Try.func91 (by kernel_rfl) (by kernel_rfl)
noncomputable def G39 : Gam := G38.addX 91 c_Clone
theorem gs39 : GS Try.prog G39 := GS.addX gs38 (s_l1Own mixed gs38 is91)
theorem is148 : Is Try.prog 148 (a_l4Splits 91) := Is.mk' n_l4Splits Try.func148 (by kernel_rfl) (by kernel_rfl)
noncomputable def G40 : Gam := G39.addX 148 c_splits
theorem gs40 : GS Try.prog G40 := GS.addX gs39 (s_l4Splits mixed gs39 is148 rfl)
theorem is85 : Is Try.prog 85 a_l4Key := Is.mk' n_l4Key Try.func85 (by kernel_rfl) (by kernel_rfl)
noncomputable def G41 : Gam := G40.addX 85 c_l4Key
theorem gs41 : GS Try.prog G41 := GS.addX gs40 (s_l4Key mixed gs40 is85)
theorem is142 : Is Try.prog 142 a_l4Rest := Is.mk' n_l4Rest Try.func142 (by kernel_rfl) (by kernel_rfl)
noncomputable def G42 : Gam := G41.addX 142 c_left
theorem gs42 : GS Try.prog G42 := GS.addX gs41 (s_l4Rest mixed gs41 is142)
theorem is82 : Is Try.prog 82 (a_l4Yes 142 91) := Is.mk' n_l4Yes Try.func82 (by kernel_rfl) (by kernel_rfl)
noncomputable def G43 : Gam := G42.addX 82 c_l4Yes
theorem gs43 : GS Try.prog G43 := GS.addX gs42 (s_l4Yes mixed gs42 is82 rfl rfl)
theorem is83 : Is Try.prog 83 (a_l4No 142 82) := Is.mk' n_l4No Try.func83 (by kernel_rfl) (by kernel_rfl)
noncomputable def G44 : Gam := G43.addX 83 c_l4No
theorem gs44 : GS Try.prog G44 := GS.addX gs43 (s_l4No mixed gs43 is83 rfl rfl)
theorem is96 : Is Try.prog 96 (a_l10Best 148 85 83) := Is.mk' n_l10Best Try.func96 (by kernel_rfl) (by kernel_rfl)
noncomputable def G45 : Gam := G44.addX 96 c_l10Best
theorem gs45 : GS Try.prog G45 := GS.addX gs44 (s_l10Best mixed gs44 is96 rfl rfl rfl)
theorem is95 : Is Try.prog 95 (a_l10Needs 140 78 76 96) := Is.mk' n_l10Needs Try.func95 (by kernel_rfl) (by kernel_rfl)
noncomputable def G46 : Gam := G45.addX 95 c_l10Needs
theorem gs46 : GS Try.prog G46 := GS.addX gs45 (s_l10Needs mixed gs45 is95 rfl rfl rfl rfl)
theorem is30 : Is Try.prog 30 (a_s_OneWayNeed 76 95 85) := Is.mk' n_s_OneWayNeed Try.func30 (by kernel_rfl) (by kernel_rfl)
noncomputable def G47 : Gam := G46.addX 30 c_OneWayNeed
theorem gs47 : GS Try.prog G47 := GS.addX gs46 (s_s_OneWayNeed mixed gs46 is30 rfl rfl rfl)
theorem is135 : Is Try.prog 135 (a_isTold 89) := Is.mk' n_isTold Try.func135 (by kernel_rfl) (by kernel_rfl)
noncomputable def G48 : Gam := G47.addX 135 c_isTold
theorem gs48 : GS Try.prog G48 := GS.addX gs47 (s_isTold mixed gs47 is135 rfl)
theorem is70 : Is Try.prog 70 (a_isUntold 23 135) := Is.mk' n_isUntold Try.func70 (by kernel_rfl) (by kernel_rfl)
noncomputable def G49 : Gam := G48.addX 70 c_isUntold
theorem gs49 : GS Try.prog G49 := GS.addX gs48 (s_isUntold mixed gs48 is70 rfl rfl)
theorem is145 : Is Try.prog 145 (a_DelS 173) := Is.mk' n_DelS Try.func145 (by kernel_rfl) (by kernel_rfl)
noncomputable def G50 : Gam := G49.addX 145 (c_DelS G24 G49)
theorem gs50 : GS Try.prog G50 := GS.addX gs49 (s_DelS (Γ0 := G24) mixed gs49 is145 rfl)
theorem is90 : Is Try.prog 90 (a_nBest 84 146 147 145) := Is.mk' n_nBest Try.func90 (by kernel_rfl) (by kernel_rfl)
noncomputable def G51 : Gam := G50.addX 90 (c_nBest G22)
theorem gs51 : GS Try.prog G51 := GS.addX gs50 (s_nBest (Γ0 := G24) (Γ1 := G49) (Γ2 := G22) mixed gs50 is90 rfl rfl rfl rfl rfl)
theorem is31 : Is Try.prog 31 (a_OneWaySplit 70 74 94 90) := Is.mk' n_OneWaySplit Try.func31 (by kernel_rfl) (by kernel_rfl)
noncomputable def G52 : Gam := G51.addX 31 c_OneWaySplit
theorem gs52 : GS Try.prog G52 := GS.addX gs51 (s_OneWaySplit (Γ1 := G20) (Γ2 := G22) mixed gs51 is31 rfl rfl rfl rfl rfl)
theorem is32 : Is Try.prog 32 (a_s_OneWaySplit 76 78 95 85 96 91) := Is.mk' n_s_OneWaySplit Try.func32 (by kernel_rfl) (by kernel_rfl)
noncomputable def G53 : Gam := G52.addX 32 c_s_OneWaySplit
theorem gs53 : GS Try.prog G53 := GS.addX gs52 (s_s_OneWaySplit mixed gs52 is32 rfl rfl rfl rfl rfl rfl)
theorem is18 : Is Try.prog 18 a_eqIntS := Is.mk' n_eqIntS Try.func18 (by kernel_rfl) (by kernel_rfl)
noncomputable def G54 : Gam := G53.addX 18 c_eqIntS
theorem gs54 : GS Try.prog G54 := GS.addX gs53 (s_eqIntS mixed gs53 is18)
theorem is33 : Is Try.prog 33 (a_SavedOneWay 23 74 72 84 94) := Is.mk' n_SavedOneWay Try.func33 (by kernel_rfl) (by kernel_rfl)
noncomputable def G55 : Gam := G54.addX 33 c_SavedOneWay
theorem gs55 : GS Try.prog G55 := GS.addX gs54 (s_SavedOneWay (Γ1 := G20) mixed gs54 is33 rfl rfl rfl rfl rfl)
theorem is141 : Is Try.prog 141 (a_l4Within 148 82 85 83) := Is.mk' n_l4Within Try.func141 (by kernel_rfl) (by kernel_rfl)
noncomputable def G56 : Gam := G55.addX 141 c_l4Within
theorem gs56 : GS Try.prog G56 := GS.addX gs55 (s_l4Within mixed gs55 is141 rfl rfl rfl rfl)
theorem is80 : Is Try.prog 80 (a_l4Needs 140 78 76 141) := Is.mk' n_l4Needs Try.func80 (by kernel_rfl) (by kernel_rfl)
noncomputable def G57 : Gam := G56.addX 80 c_l4Needs
theorem gs57 : GS Try.prog G57 := GS.addX gs56 (s_l4Needs mixed gs56 is80 rfl rfl rfl rfl)
theorem is34 : Is Try.prog 34 (a_s_SavedOneWay 76 85 80 95) := Is.mk' n_s_SavedOneWay Try.func34 (by kernel_rfl) (by kernel_rfl)
noncomputable def G58 : Gam := G57.addX 34 c_SavedOneWay
theorem gs58 : GS Try.prog G58 := GS.addX gs57 (s_s_SavedOneWay mixed gs57 is34 rfl rfl rfl rfl)
theorem is97 : Is Try.prog 97 (a_nPaths 135 90 97) := Is.mk' n_nPaths Try.func97 (by kernel_rfl) (by kernel_rfl)
noncomputable def G59 : Gam := G58.addX 97 (c_nPaths G22 G58)
theorem gs59 : GS Try.prog G59 := GS.addX gs58 (s_nPaths (Γ2 := G22) mixed gs58 is97 (by decide) rfl rfl rfl)
theorem is35 : Is Try.prog 35 (a_OneWayPaths 23 74 94 97) := Is.mk' n_OneWayPaths Try.func35 (by kernel_rfl) (by kernel_rfl)
noncomputable def G60 : Gam := G59.addX 35 c_OneWayPaths
theorem gs60 : GS Try.prog G60 := GS.addX gs59 (s_OneWayPaths (Γ1 := G20) (Γ2 := G22) (Γ3 := G58) mixed gs59 is35 rfl rfl rfl rfl rfl rfl)
theorem is150 : Is Try.prog 150 a_l1Least := Is.mk' n_l1Least Try.func150 (by kernel_rfl) (by kernel_rfl)
noncomputable def G61 : Gam := G60.addX 150 c_l1Least
theorem gs61 : GS Try.prog G61 := GS.addX gs60 (s_l1Least mixed gs60 is150)
theorem is81 : Is Try.prog 81 a_l1Most := Is.mk' n_l1Most Try.func81 (by kernel_rfl) (by kernel_rfl)
noncomputable def G62 : Gam := G61.addX 81 c_l1Most
theorem gs62 : GS Try.prog G62 := GS.addX gs61 (s_l1Most mixed gs61 is81)
theorem is98 : Is Try.prog 98 (a_l10Paths 78 85 96 98 83 150 81) := Is.mk' n_l10Paths Try.func98 (by kernel_rfl) (by kernel_rfl)
noncomputable def G63 : Gam := G62.addX 98 c_l10Paths
theorem gs63 : GS Try.prog G63 := GS.addX gs62 (s_l10Paths mixed gs62 is98 (by decide) rfl rfl rfl rfl rfl rfl)
theorem is36 : Is Try.prog 36 (a_s_OneWayPaths 76 95 98) := Is.mk' n_s_OneWayPaths Try.func36 (by kernel_rfl) (by kernel_rfl)
noncomputable def G64 : Gam := G63.addX 36 c_OneWayPaths
theorem gs64 : GS Try.prog G64 := GS.addX gs63 (s_s_OneWayPaths mixed gs63 is36 rfl rfl rfl)
theorem is167 : Is Try.prog 167 (a_one 166) := Is.mk' n_one Try.func167 (by kernel_rfl) (by kernel_rfl)
noncomputable def G65 : Gam := G64.addX 167 c_one
theorem gs65 : GS Try.prog G65 := GS.addX gs64 (s_one mixed gs64 is167 rfl)
theorem is134 : Is Try.prog 134 (a_split 81 166 167 152) := Is.mk' n_split Try.func134 (by kernel_rfl) (by kernel_rfl)
noncomputable def G66 : Gam := G65.addX 134 c_split
theorem gs66 : GS Try.prog G66 := GS.addX gs65 (s_split mixed gs65 is134 rfl rfl rfl rfl)
theorem is69 : Is Try.prog 69 (a_DrawYesCounts 133 134) := Is.mk' n_DrawYesCounts Try.func69 (by kernel_rfl) (by kernel_rfl)
noncomputable def G67 : Gam := G66.addX 69 c_DrawYesCounts
theorem gs67 : GS Try.prog G67 := GS.addX gs66 (s_DrawYesCounts mixed gs66 is69 rfl rfl)
theorem is37 : Is Try.prog 37 (a_DrawSplitNeed 69) := Is.mk' n_DrawSplitNeed Try.func37 (by kernel_rfl) (by kernel_rfl)
noncomputable def G68 : Gam := G67.addX 37 c_DrawSplitNeed
theorem gs68 : GS Try.prog G68 := GS.addX gs67 (s_DrawSplitNeed mixed gs67 is37 rfl)
theorem is71 : Is Try.prog 71 (a_isSplit 86) := Is.mk' n_isSplit Try.func71 (by kernel_rfl) (by kernel_rfl)
noncomputable def G69 : Gam := G68.addX 71 c_isSplit
theorem gs69 : GS Try.prog G69 := GS.addX gs68 (s_isSplit mixed gs68 is71 rfl)
theorem is38 : Is Try.prog 38 (a_OneWayYes 23 71 94) := Is.mk' n_OneWayYes Try.func38 (by kernel_rfl) (by kernel_rfl)
noncomputable def G70 : Gam := G69.addX 38 c_OneWayYes
theorem gs70 : GS Try.prog G70 := GS.addX gs69 (s_OneWayYes mixed gs69 is38 rfl rfl rfl)
theorem is77 : Is Try.prog 77 (a_l4Split 102) := Is.mk' n_l4Split Try.func77 (by kernel_rfl) (by kernel_rfl)
noncomputable def G71 : Gam := G70.addX 77 c_isSplit
theorem gs71 : GS Try.prog G71 := GS.addX gs70 (s_l4Split mixed gs70 is77 rfl)
theorem is39 : Is Try.prog 39 (a_s_OneWayYes 76 77 91) := Is.mk' n_s_OneWayYes Try.func39 (by kernel_rfl) (by kernel_rfl)
noncomputable def G72 : Gam := G71.addX 39 c_s_OneWayYes
theorem gs72 : GS Try.prog G72 := GS.addX gs71 (s_s_OneWayYes mixed gs71 is39 rfl rfl rfl)
theorem is40 : Is Try.prog 40 (a_OneWayNo 23 71 94) := Is.mk' n_OneWayNo Try.func40 (by kernel_rfl) (by kernel_rfl)
noncomputable def G73 : Gam := G72.addX 40 c_OneWayNo
theorem gs73 : GS Try.prog G73 := GS.addX gs72 (s_OneWayNo mixed gs72 is40 rfl rfl rfl)
theorem is41 : Is Try.prog 41 (a_s_OneWayNo 76 77 83) := Is.mk' n_s_OneWayNo Try.func41 (by kernel_rfl) (by kernel_rfl)
noncomputable def G74 : Gam := G73.addX 41 c_s_OneWayNo
theorem gs74 : GS Try.prog G74 := GS.addX gs73 (s_s_OneWayNo mixed gs73 is41 rfl rfl rfl)
theorem is151 : Is Try.prog 151 (a_lies 152) := Is.mk' n_lies Try.func151 (by kernel_rfl) (by kernel_rfl)
noncomputable def G75 : Gam := G74.addX 151 c_lies
theorem gs75 : GS Try.prog G75 := GS.addX gs74 (s_lies mixed gs74 is151 rfl)
theorem is99 : Is Try.prog 99 (a_DrawNeedTable 151) := Is.mk' n_DrawNeedTable Try.func99 (by kernel_rfl) (by kernel_rfl)
noncomputable def G76 : Gam := G75.addX 99 c_DrawNeedTable
theorem gs76 : GS Try.prog G76 := GS.addX gs75 (s_DrawNeedTable mixed gs75 is99 rfl)
theorem is42 : Is Try.prog 42 (a_DrawOneWayTable 99) := Is.mk' n_DrawOneWayTable Try.func42 (by kernel_rfl) (by kernel_rfl)
noncomputable def G77 : Gam := G76.addX 42 c_DrawNeedTable
theorem gs77 : GS Try.prog G77 := GS.addX gs76 (s_DrawOneWayTable mixed gs76 is42 rfl)
theorem is100 : Is Try.prog 100 (a_isMost 86) := Is.mk' n_isMost Try.func100 (by kernel_rfl) (by kernel_rfl)
noncomputable def G78 : Gam := G77.addX 100 c_isMost
theorem gs78 : GS Try.prog G78 := GS.addX gs77 (s_isMost mixed gs77 is100 rfl)
theorem is120 : Is Try.prog 120 a_countsOf := Is.mk' n_countsOf Try.func120 (by kernel_rfl) (by kernel_rfl)
noncomputable def G79 : Gam := G78.addX 120 c_countsOf
theorem gs79 : GS Try.prog G79 := GS.addX gs78 (s_countsOf mixed gs78 is120)
theorem is101 : Is Try.prog 101 (a_nTable 120 84) := Is.mk' n_nTable Try.func101 (by kernel_rfl) (by kernel_rfl)
noncomputable def G80 : Gam := G79.addX 101 c_nTable
theorem gs80 : GS Try.prog G80 := GS.addX gs79 (s_nTable mixed gs79 is101 rfl rfl)
theorem is43 : Is Try.prog 43 (a_OneWayTable 100 74 94 101) := Is.mk' n_OneWayTable Try.func43 (by kernel_rfl) (by kernel_rfl)
noncomputable def G81 : Gam := G80.addX 43 c_OneWayTable
theorem gs81 : GS Try.prog G81 := GS.addX gs80 (s_OneWayTable (Γ1 := G20) mixed gs80 is43 rfl rfl rfl rfl)
theorem is103 : Is Try.prog 103 a_countsOf := Is.mk' n_countsOf Try.func103 (by kernel_rfl) (by kernel_rfl)
noncomputable def G82 : Gam := G81.addX 103 c_countsOf
theorem gs82 : GS Try.prog G82 := GS.addX gs81 (s_countsOf mixed gs81 is103)
theorem is44 : Is Try.prog 44 (a_s_OneWayTable 102 95 103 85) := Is.mk' n_s_OneWayTable Try.func44 (by kernel_rfl) (by kernel_rfl)
noncomputable def G83 : Gam := G82.addX 44 c_s_OneWayTable
theorem gs83 : GS Try.prog G83 := GS.addX gs82 (s_s_OneWayTable mixed gs82 is44 rfl rfl rfl rfl)
theorem is104 : Is Try.prog 104 (a_DrawMostByNeed 152 151) := Is.mk' n_DrawMostByNeed Try.func104 (by kernel_rfl) (by kernel_rfl)
noncomputable def G84 : Gam := G83.addX 104 c_DrawMostByNeed
theorem gs84 : GS Try.prog G84 := GS.addX gs83 (s_DrawMostByNeed mixed gs83 is104 rfl rfl)
theorem is45 : Is Try.prog 45 (a_DrawOneWayMost 104) := Is.mk' n_DrawOneWayMost Try.func45 (by kernel_rfl) (by kernel_rfl)
noncomputable def G85 : Gam := G84.addX 45 c_DrawMostByNeed
theorem gs85 : GS Try.prog G85 := GS.addX gs84 (s_DrawOneWayMost mixed gs84 is45 rfl)
theorem is105 : Is Try.prog 105 (a_nMost 120 84) := Is.mk' n_nMost Try.func105 (by kernel_rfl) (by kernel_rfl)
noncomputable def G86 : Gam := G85.addX 105 c_nMost
theorem gs86 : GS Try.prog G86 := GS.addX gs85 (s_nMost mixed gs85 is105 rfl rfl)
theorem is46 : Is Try.prog 46 (a_OneWayMost 86 100 74 94 105) := Is.mk' n_OneWayMost Try.func46 (by kernel_rfl) (by kernel_rfl)
noncomputable def G87 : Gam := G86.addX 46 c_OneWayMost
theorem gs87 : GS Try.prog G87 := GS.addX gs86 (s_OneWayMost (Γ1 := G20) mixed gs86 is46 rfl rfl rfl rfl rfl)
theorem is47 : Is Try.prog 47 (a_s_OneWayMost 102 95 103 85) := Is.mk' n_s_OneWayMost Try.func47 (by kernel_rfl) (by kernel_rfl)
noncomputable def G88 : Gam := G87.addX 47 c_OneWayMost
theorem gs88 : GS Try.prog G88 := GS.addX gs87 (s_s_OneWayMost mixed gs87 is47 rfl rfl rfl rfl)
theorem is21 : Is Try.prog 21 (a_NeedOf 23 74 72 84) := Is.mk' n_NeedOf Try.func21 (by kernel_rfl) (by kernel_rfl)
noncomputable def G89 : Gam := G88.addX 21 c_NeedOf
theorem gs89 : GS Try.prog G89 := GS.addX gs88 (s_NeedOf (Γ1 := G20) mixed gs88 is21 rfl rfl rfl rfl)
theorem is4 : Is Try.prog 4 (a_x_OneWayNeeds 12 28 29 30 23 31 32 18 33 34 35 36 37 38 39 40 41 42 43 44 45 46 47 21) := Is.mk' n_x_OneWayNeeds Try.func4 (by kernel_rfl) (by kernel_rfl)
theorem law : Says Try.prog 4 c_x_OneWayNeeds := s_x_OneWayNeeds mixed gs89 is4 rfl rfl rfl rfl rfl rfl rfl rfl rfl rfl rfl rfl rfl rfl rfl rfl rfl rfl rfl rfl rfl rfl rfl rfl
theorem own : ownKnob Try.prog.godebug = none := by kernel_rfl
theorem laidOut : laidOutB Try.prog = true := by kernel_rfl
set_option maxRecDepth 100000 in
theorem lifted (os : Os) (started : os.Started) (H : Type) (enc : TypeId × Value → H) :
    ReturnsInHanded {} Try.checked os 4 .any (Rows.fnOneWayNeedsSpec.pre6 enc Try.prog Try.f4 Rows.fnOneWayNeedsRow.domain false) (Rows.fnOneWayNeedsSpec.post enc Try.prog Try.f4 false true false false) := by
  refine returnsInHanded_of_change (C := Try.checked) own started (by kernel_rfl) Try.func4
    (ChangeSpec.witness6 (enc := enc) (C := Try.checked) false ⟨#[], #[.slice none 0 0], []⟩ 8 (by kernel_rfl) (by kernel_rfl) (by kernel_rfl) (by kernel_rfl)) ?_
  intro W base args ds gs before hval0 hW _ _
  have hval : ∀ (j : Nat) t v, Try.f4.params[j]? = some t → args[j]? = some v → Value.okWide Try.prog W .any base t v := hval0
  obtain ⟨p, q, hA0, hV, _, _, _⟩ := id hW
  have hA : DataW.TrodAll enc Try.prog W 0 (fun _ => true) true Try.f4.params.toList args.toList ds p := hA0
  rw [Try.params4] at hA hval
  obtain ⟨v0, d0, rfl, rfl, h0⟩ := trodAll_one hA
  obtain ⟨pv0, l0, sl0, le0, hp0⟩ := open_bytesV Try.underlying22 Try.underlying5 (by kernel_rfl) (hval 0 22 v0 rfl rfl) h0
  have hcon : c_x_OneWayNeeds ([pv0].map .p) [] = some (.p (.bool true), [], []) := by simp [c_x_OneWayNeeds, pure', sl0, le0]
  refine (calls_true (args := [pv0]) (law _ _ _ _ _ hcon) rfl fun i hi => ?_).mono fun e W' ⟨he, hb⟩ => ⟨_, he, post_true hW rfl (fun l hl => ?_) laidOut (by kernel_rfl) (by kernel_rfl) Try.underlying4 hb⟩
  · match i, hi with
    | 0, _ => exact hp0
  · rw [Try.params4] at hl
    match l, hl with
    | [_], _ => rfl

theorem fnOneWayNeeds_holds : Rows.FnOneWayNeedsSaid :=
  OpenClaim.holds_of_wide 4 Try.f4 rfl rfl rfl rfl rfl rfl rfl ⟨rfl, rfl, rfl, rfl, rfl⟩ rfl rfl rfl rfl rfl (by kernel_rfl) Try.func4 (by kernel_rfl)
    (of_decide_eq_true (by kernel_rfl)) (by unfold Func.isWrapper; rw [if_neg (by decide +kernel)]; exact ⟨rfl, rfl⟩)
    (fun os started H enc _ => lifted os started H enc)
#print axioms fnOneWayNeeds_holds
end Go.Proofs.Ytihpfhdkjlphhaa
