/- FOR EVERY INPUT THE LAW 'FnNeeds' RETURNS TRUE, AND THE INPUT READS AS IT DID. No condition beyond the row's own. -/
import Derived.Test.YtihpfhdkjlphhaaChecked
import Derived.Test.YtihpfhdkjlphhaaRows
import Derived.Test.YtihpfhdkjlphhaaGfOI
set_option linter.unusedVariables false
set_option linter.unusedSimpArgs false
namespace Go.Proofs.Ytihpfhdkjlphhaa
open Go Go.Proofs Go.Proofs.Ytihpfhdkjlphhaa.Pam Go.ChangeShapes Go.WideShapes Go.ChangeAt Go.RowKit Go.Joins
theorem mixed : Try.prog.follows .mixedOrders = true := by kernel_rfl
def G0 : Gam := Gam.none
theorem gs0 : GS Try.prog G0 := GS.none
theorem is12 : Is Try.prog 12 a_rBig := Is.mk' n_rBig Try.func12 (by kernel_rfl) (by kernel_rfl)
def G1 : Gam := G0.addX 12 c_rBig
theorem gs1 : GS Try.prog G1 := GS.addX gs0 (s_rBig mixed gs0 is12)
theorem is177 : Is Try.prog 177 a_next := Is.mk' n_next Try.func177 (by kernel_rfl) (by kernel_rfl)
def G2 : Gam := G1.addX 177 c_next
theorem gs2 : GS Try.prog G2 := GS.addX gs1 (s_next mixed gs1 is177)
theorem is166 : Is Try.prog 166 (a_pick 177) := Is.mk' n_pick Try.func166 (by kernel_rfl) (by kernel_rfl)
def G3 : Gam := G2.addX 166 c_pick
theorem gs3 : GS Try.prog G3 := GS.addX gs2 (s_pick mixed gs2 is166 rfl)
theorem is152 : Is Try.prog 152 (a_among 166) := Is.mk' n_among Try.func152 (by kernel_rfl) (by kernel_rfl)
def G4 : Gam := G3.addX 152 c_among
theorem gs4 : GS Try.prog G4 := GS.addX gs3 (s_among mixed gs3 is152 rfl)
theorem is133 : Is Try.prog 133 (a_counts 152 166) := Is.mk' n_counts Try.func133 (by kernel_rfl) (by kernel_rfl)
def G5 : Gam := G4.addX 133 c_counts
theorem gs5 : GS Try.prog G5 := GS.addX gs4 (s_counts mixed gs4 is133 rfl rfl)
theorem is81 : Is Try.prog 81 a_l1Most := Is.mk' n_l1Most Try.func81 (by kernel_rfl) (by kernel_rfl)
def G6 : Gam := G5.addX 81 c_l1Most
theorem gs6 : GS Try.prog G6 := GS.addX gs5 (s_l1Most mixed gs5 is81)
theorem is167 : Is Try.prog 167 (a_one 166) := Is.mk' n_one Try.func167 (by kernel_rfl) (by kernel_rfl)
def G7 : Gam := G6.addX 167 c_one
theorem gs7 : GS Try.prog G7 := GS.addX gs6 (s_one mixed gs6 is167 rfl)
theorem is134 : Is Try.prog 134 (a_split 81 166 167 152) := Is.mk' n_split Try.func134 (by kernel_rfl) (by kernel_rfl)
def G8 : Gam := G7.addX 134 c_split
theorem gs8 : GS Try.prog G8 := GS.addX gs7 (s_split mixed gs7 is134 rfl rfl rfl rfl)
theorem is69 : Is Try.prog 69 (a_DrawYesCounts 133 134) := Is.mk' n_DrawYesCounts Try.func69 (by kernel_rfl) (by kernel_rfl)
def G9 : Gam := G8.addX 69 c_DrawYesCounts
theorem gs9 : GS Try.prog G9 := GS.addX gs8 (s_DrawYesCounts mixed gs8 is69 rfl rfl)
theorem is13 : Is Try.prog 13 (a_DrawSplitNeed 69) := Is.mk' n_DrawSplitNeed Try.func13 (by kernel_rfl) (by kernel_rfl)
def G10 : Gam := G9.addX 13 c_DrawSplitNeed
theorem gs10 : GS Try.prog G10 := GS.addX gs9 (s_DrawSplitNeed mixed gs9 is13 rfl)
theorem is86 : Is Try.prog 86 a_in := Is.mk' n_in Try.func86 (by kernel_rfl) (by kernel_rfl)
def G11 : Gam := G10.addX 86 c_in
theorem gs11 : GS Try.prog G11 := GS.addX gs10 (s_in mixed gs10 is86)
theorem is88 : Is Try.prog 88 (a_AreCounts1 86) := Is.mk' n_AreCounts1 Try.func88 (by kernel_rfl) (by kernel_rfl)
def G12 : Gam := G11.addX 88 c_AreCounts1
theorem gs12 : GS Try.prog G12 := GS.addX gs11 (s_AreCounts1 mixed gs11 is88 rfl)
theorem is144 : Is Try.prog 144 a_IndexFunc := Is.mk' n_IndexFunc Try.func144 (by kernel_rfl) (by kernel_rfl)
def G13 : Gam := G12.addX 144 (c_IndexFunc G12)
theorem gs13 : GS Try.prog G13 := GS.addX gs12 (s_IndexFunc mixed gs12 is144)
theorem is87 : Is Try.prog 87 (a_ContainsFunc 144) := Is.mk' n_ContainsFunc Try.func87 (by kernel_rfl) (by kernel_rfl)
def G14 : Gam := G13.addX 87 (c_ContainsFunc G12)
theorem gs14 : GS Try.prog G14 := GS.addX gs13 (s_ContainsFunc (Γ0 := G12) mixed gs13 is87 rfl)
theorem is89 : Is Try.prog 89 a_sumC := Is.mk' n_sumC Try.func89 (by kernel_rfl) (by kernel_rfl)
def G15 : Gam := G14.addX 89 c_sumC
theorem gs15 : GS Try.prog G15 := GS.addX gs14 (s_sumC mixed gs14 is89)
theorem is23 : Is Try.prog 23 (a_AreCounts 86 87 88 89) := Is.mk' n_AreCounts Try.func23 (by kernel_rfl) (by kernel_rfl)
def G16 : Gam := G15.addX 23 c_AreCounts
theorem gs16 : GS Try.prog G16 := GS.addX gs15 (s_AreCounts (Γ0 := G12) mixed gs15 is23 rfl rfl rfl rfl)
theorem is135 : Is Try.prog 135 (a_isTold 89) := Is.mk' n_isTold Try.func135 (by kernel_rfl) (by kernel_rfl)
def G17 : Gam := G16.addX 135 c_isTold
theorem gs17 : GS Try.prog G17 := GS.addX gs16 (s_isTold mixed gs16 is135 rfl)
theorem is70 : Is Try.prog 70 (a_isUntold 23 135) := Is.mk' n_isUntold Try.func70 (by kernel_rfl) (by kernel_rfl)
def G18 : Gam := G17.addX 70 c_isUntold
theorem gs18 : GS Try.prog G18 := GS.addX gs17 (s_isUntold mixed gs17 is70 rfl rfl)
theorem is71 : Is Try.prog 71 (a_isSplit 86) := Is.mk' n_isSplit Try.func71 (by kernel_rfl) (by kernel_rfl)
def G19 : Gam := G18.addX 71 c_isSplit
theorem gs19 : GS Try.prog G19 := GS.addX gs18 (s_isSplit mixed gs18 is71 rfl)
theorem is136 : Is Try.prog 136 a_left := Is.mk' n_left Try.func136 (by kernel_rfl) (by kernel_rfl)
def G20 : Gam := G19.addX 136 c_left
theorem gs20 : GS Try.prog G20 := GS.addX gs19 (s_left mixed gs19 is136)
theorem is149 : Is Try.prog 149 a_Clone := Is.mk' n_Clone Try.func149 (by kernel_rfl) (by kernel_rfl)
def G21 : Gam := G20.addX 149 c_Clone
theorem gs21 : GS Try.prog G21 := GS.addX gs20 (s_Clone mixed gs20 is149)
theorem is137 : Is Try.prog 137 (a_moved 149) := Is.mk' n_moved Try.func137 (by kernel_rfl) (by kernel_rfl)
def G22 : Gam := G21.addX 137 c_moved
theorem gs22 : GS Try.prog G22 := GS.addX gs21 (s_moved mixed gs21 is137 rfl)
theorem is72 : Is Try.prog 72 (a_bothWays 136 137) := Is.mk' n_bothWays Try.func72 (by kernel_rfl) (by kernel_rfl)
def G23 : Gam := G22.addX 72 c_bothWays
theorem gs23 : GS Try.prog G23 := GS.addX gs22 (s_bothWays mixed gs22 is72 rfl rfl)
theorem is73 : Is Try.prog 73 a_EqualI := Is.mk' n_EqualI Try.func73 (by kernel_rfl) (by kernel_rfl)
def G24 : Gam := G23.addX 73 c_EqualI
theorem gs24 : GS Try.prog G24 := GS.addX gs23 (s_EqualI mixed gs23 is73)
theorem is146 : Is Try.prog 146 (a_splits 149) := Is.mk' n_splits Try.func146 (by kernel_rfl) (by kernel_rfl)
def G25 : Gam := G24.addX 146 c_splits
theorem gs25 : GS Try.prog G25 := GS.addX gs24 (s_splits mixed gs24 is146 rfl)
theorem is143 : Is Try.prog 143 a_tripleOf := Is.mk' n_tripleOf Try.func143 (by kernel_rfl) (by kernel_rfl)
def G26 : Gam := G25.addX 143 c_tripleOf
theorem gs26 : GS Try.prog G26 := GS.addX gs25 (s_tripleOf mixed gs25 is143)
theorem is169 : Is Try.prog 169 (a_needs1 143) := Is.mk' n_needs1 Try.func169 (by kernel_rfl) (by kernel_rfl)
noncomputable def G27 : Gam := G26.addX 169 (c_needs1 G26)
theorem gs27 : GS Try.prog G27 := GS.addX gs26 (s_needs1 mixed gs26 is169 rfl)
theorem is84 : Is Try.prog 84 (a_nOf 143) := Is.mk' n_nOf Try.func84 (by kernel_rfl) (by kernel_rfl)
noncomputable def G28 : Gam := G27.addX 84 c_nOf
theorem gs28 : GS Try.prog G28 := GS.addX gs27 (s_nOf mixed gs27 is84 rfl)
theorem is75 : Is Try.prog 75 (a_nSplit 84) := Is.mk' n_nSplit Try.func75 (by kernel_rfl) (by kernel_rfl)
noncomputable def G29 : Gam := G28.addX 75 (c_nSplit G28)
theorem gs29 : GS Try.prog G29 := GS.addX gs28 (s_nSplit mixed gs28 is75 rfl)
theorem is147 : Is Try.prog 147 (a_best1 75) := Is.mk' n_best1 Try.func147 (by kernel_rfl) (by kernel_rfl)
noncomputable def G30 : Gam := G29.addX 147 (c_best1 G28)
theorem gs30 : GS Try.prog G30 := GS.addX gs29 (s_best1 (Γ2 := G28) mixed gs29 is147 rfl)
theorem is173 : Is Try.prog 173 a_IndexFuncS := Is.mk' n_IndexFuncS Try.func173 (by kernel_rfl) (by kernel_rfl)
noncomputable def G31 : Gam := G30.addX 173 (c_IndexFuncS G30)
theorem gs31 : GS Try.prog G31 := GS.addX gs30 (s_IndexFuncS mixed gs30 is173)
theorem is168 : Is Try.prog 168 (a_ContainsFuncS 173) := Is.mk' n_ContainsFuncS Try.func168 (by kernel_rfl) (by kernel_rfl)
noncomputable def G32 : Gam := G31.addX 168 (c_ContainsFuncS G30)
theorem gs32 : GS Try.prog G32 := GS.addX gs31 (s_ContainsFuncS (Γ0 := G30) mixed gs31 is168 rfl)
theorem is179 : Is Try.prog 179 a_IndexT := Is.mk' n_IndexT Try.func179 (by kernel_rfl) (by kernel_rfl)
noncomputable def G33 : Gam := G32.addX 179 c_IndexT
theorem gs33 : GS Try.prog G33 := GS.addX gs32 (s_IndexT mixed gs32 is179)
theorem is172 : Is Try.prog 172 (a_ContainsT 179) := Is.mk' n_ContainsT Try.func172 (by kernel_rfl) (by kernel_rfl)
noncomputable def G34 : Gam := G33.addX 172 c_ContainsT
theorem gs34 : GS Try.prog G34 := GS.addX gs33 (s_ContainsT mixed gs33 is172 rfl)
theorem is171 : Is Try.prog 171 (a_needs2 172) := Is.mk' n_needs2 Try.func171 (by kernel_rfl) (by kernel_rfl)
noncomputable def G35 : Gam := G34.addX 171 c_needs2
theorem gs35 : GS Try.prog G35 := GS.addX gs34 (s_needs2 mixed gs34 is171 rfl)
theorem is178 : Is Try.prog 178 a_IndexFuncT := Is.mk' n_IndexFuncT Try.func178 (by kernel_rfl) (by kernel_rfl)
noncomputable def G36 : Gam := G35.addX 178 (c_IndexFuncT G35)
theorem gs36 : GS Try.prog G36 := GS.addX gs35 (s_IndexFuncT mixed gs35 is178)
theorem is170 : Is Try.prog 170 (a_DelT 178) := Is.mk' n_DelT Try.func170 (by kernel_rfl) (by kernel_rfl)
noncomputable def G37 : Gam := G36.addX 170 (c_DelT G35 G36)
theorem gs37 : GS Try.prog G37 := GS.addX gs36 (s_DelT (Γ0 := G35) mixed gs36 is170 rfl)
theorem is138 : Is Try.prog 138 (a_needs 146 169 168 171 170) := Is.mk' n_needs Try.func138 (by kernel_rfl) (by kernel_rfl)
noncomputable def G38 : Gam := G37.addX 138 (c_needs G26)
theorem gs38 : GS Try.prog G38 := GS.addX gs37 (s_needs (Γ0 := G30) (Γ1 := G26) (Γ2 := G35) (Γ3 := G36) mixed gs37 is138 rfl rfl rfl rfl rfl rfl)
theorem is74 : Is Try.prog 74 (a_neederOf 138) := Is.mk' n_neederOf Try.func74 (by kernel_rfl) (by kernel_rfl)
noncomputable def G39 : Gam := G38.addX 74 (c_neederOf G26)
theorem gs39 : GS Try.prog G39 := GS.addX gs38 (s_neederOf (Γ1 := G26) mixed gs38 is74 rfl)
theorem is14 : Is Try.prog 14 (a_SplitNeed 70 71 72 73 74 75) := Is.mk' n_SplitNeed Try.func14 (by kernel_rfl) (by kernel_rfl)
noncomputable def G40 : Gam := G39.addX 14 c_SplitNeed
theorem gs40 : GS Try.prog G40 := GS.addX gs39 (s_SplitNeed (Γ1 := G26) (Γ2 := G28) mixed gs39 is14 rfl rfl rfl rfl rfl rfl rfl rfl)
theorem is102 : Is Try.prog 102 a_l1In := Is.mk' n_l1In Try.func102 (by kernel_rfl) (by kernel_rfl)
noncomputable def G41 : Gam := G40.addX 102 c_in
theorem gs41 : GS Try.prog G41 := GS.addX gs40 (s_l1In mixed gs40 is102)
theorem is76 : Is Try.prog 76 (a_l4Counts 102) := Is.mk' n_l4Counts Try.func76 (by kernel_rfl) (by kernel_rfl)
noncomputable def G42 : Gam := G41.addX 76 c_AreCounts
theorem gs42 : GS Try.prog G42 := GS.addX gs41 (s_l4Counts mixed gs41 is76 rfl)
theorem is77 : Is Try.prog 77 (a_l4Split 102) := Is.mk' n_l4Split Try.func77 (by kernel_rfl) (by kernel_rfl)
noncomputable def G43 : Gam := G42.addX 77 c_isSplit
theorem gs43 : GS Try.prog G43 := GS.addX gs42 (s_l4Split mixed gs42 is77 rfl)
theorem is78 : Is Try.prog 78 a_l4Told := Is.mk' n_l4Told Try.func78 (by kernel_rfl) (by kernel_rfl)
noncomputable def G44 : Gam := G43.addX 78 c_isTold
theorem gs44 : GS Try.prog G44 := GS.addX gs43 (s_l4Told mixed gs43 is78)
theorem is140 : Is Try.prog 140 a_l4Counted := Is.mk' n_l4Counted Try.func140 (by kernel_rfl) (by kernel_rfl)
noncomputable def G45 : Gam := G44.addX 140 c_l4Counted
theorem gs45 : GS Try.prog G45 := GS.addX gs44 (s_l4Counted mixed gs44 is140)
theorem is91 : Is Try.prog 91 a_l1Own := Is.mk' n_l1Own Try.func91 (by kernel_rfl) (by kernel_rfl)
noncomputable def G46 : Gam := G45.addX 91 c_Clone
theorem gs46 : GS Try.prog G46 := GS.addX gs45 (s_l1Own mixed gs45 is91)
theorem is148 : Is Try.prog 148 (a_l4Splits 91) := Is.mk' n_l4Splits Try.func148 (by kernel_rfl) (by kernel_rfl)
noncomputable def G47 : Gam := G46.addX 148 c_splits
theorem gs47 : GS Try.prog G47 := GS.addX gs46 (s_l4Splits mixed gs46 is148 rfl)
theorem is142 : Is Try.prog 142 a_l4Rest := Is.mk' n_l4Rest Try.func142 (by kernel_rfl) (by kernel_rfl)
noncomputable def G48 : Gam := G47.addX 142 c_left
theorem gs48 : GS Try.prog G48 := GS.addX gs47 (s_l4Rest mixed gs47 is142)
theorem is82 : Is Try.prog 82 (a_l4Yes 142 91) := Is.mk' n_l4Yes Try.func82 (by kernel_rfl) (by kernel_rfl)
noncomputable def G49 : Gam := G48.addX 82 c_l4Yes
theorem gs49 : GS Try.prog G49 := GS.addX gs48 (s_l4Yes mixed gs48 is82 rfl rfl)
theorem is85 : Is Try.prog 85 a_l4Key := Is.mk' n_l4Key Try.func85 (by kernel_rfl) (by kernel_rfl)
noncomputable def G50 : Gam := G49.addX 85 c_l4Key
theorem gs50 : GS Try.prog G50 := GS.addX gs49 (s_l4Key mixed gs49 is85)
theorem is83 : Is Try.prog 83 (a_l4No 142 82) := Is.mk' n_l4No Try.func83 (by kernel_rfl) (by kernel_rfl)
noncomputable def G51 : Gam := G50.addX 83 c_l4No
theorem gs51 : GS Try.prog G51 := GS.addX gs50 (s_l4No mixed gs50 is83 rfl rfl)
theorem is141 : Is Try.prog 141 (a_l4Within 148 82 85 83) := Is.mk' n_l4Within Try.func141 (by kernel_rfl) (by kernel_rfl)
noncomputable def G52 : Gam := G51.addX 141 c_l4Within
theorem gs52 : GS Try.prog G52 := GS.addX gs51 (s_l4Within mixed gs51 is141 rfl rfl rfl rfl)
theorem is80 : Is Try.prog 80 (a_l4Needs 140 78 76 141) := Is.mk' n_l4Needs Try.func80 (by kernel_rfl) (by kernel_rfl)
noncomputable def G53 : Gam := G52.addX 80 c_l4Needs
theorem gs53 : GS Try.prog G53 := GS.addX gs52 (s_l4Needs mixed gs52 is80 rfl rfl rfl rfl)
theorem is139 : Is Try.prog 139 a_eqIntS := Is.mk' n_eqIntS Try.func139 (by kernel_rfl) (by kernel_rfl)
noncomputable def G54 : Gam := G53.addX 139 c_eqIntS
theorem gs54 : GS Try.prog G54 := GS.addX gs53 (s_eqIntS mixed gs53 is139)
theorem is79 : Is Try.prog 79 (a_l4SplitNeed 82 83 139 85 81) := Is.mk' n_l4SplitNeed Try.func79 (by kernel_rfl) (by kernel_rfl)
noncomputable def G55 : Gam := G54.addX 79 c_l4SplitNeed
theorem gs55 : GS Try.prog G55 := GS.addX gs54 (s_l4SplitNeed mixed gs54 is79 rfl rfl rfl rfl rfl)
theorem is15 : Is Try.prog 15 (a_s_SplitNeed 76 77 78 80 79 81) := Is.mk' n_s_SplitNeed Try.func15 (by kernel_rfl) (by kernel_rfl)
noncomputable def G56 : Gam := G55.addX 15 c_SplitNeed
theorem gs56 : GS Try.prog G56 := GS.addX gs55 (s_s_SplitNeed mixed gs55 is15 rfl rfl rfl rfl rfl rfl)
theorem is16 : Is Try.prog 16 (a_YesCounts 23 71 72) := Is.mk' n_YesCounts Try.func16 (by kernel_rfl) (by kernel_rfl)
noncomputable def G57 : Gam := G56.addX 16 c_YesCounts
theorem gs57 : GS Try.prog G57 := GS.addX gs56 (s_YesCounts mixed gs56 is16 rfl rfl rfl)
theorem is17 : Is Try.prog 17 (a_s_YesCounts 76 77 82) := Is.mk' n_s_YesCounts Try.func17 (by kernel_rfl) (by kernel_rfl)
noncomputable def G58 : Gam := G57.addX 17 c_s_YesCounts
theorem gs58 : GS Try.prog G58 := GS.addX gs57 (s_s_YesCounts mixed gs57 is17 rfl rfl rfl)
theorem is18 : Is Try.prog 18 a_eqIntS := Is.mk' n_eqIntS Try.func18 (by kernel_rfl) (by kernel_rfl)
noncomputable def G59 : Gam := G58.addX 18 c_eqIntS
theorem gs59 : GS Try.prog G59 := GS.addX gs58 (s_eqIntS mixed gs58 is18)
theorem is19 : Is Try.prog 19 (a_NoCounts 23 71 72) := Is.mk' n_NoCounts Try.func19 (by kernel_rfl) (by kernel_rfl)
noncomputable def G60 : Gam := G59.addX 19 c_NoCounts
theorem gs60 : GS Try.prog G60 := GS.addX gs59 (s_NoCounts mixed gs59 is19 rfl rfl rfl)
theorem is20 : Is Try.prog 20 (a_s_NoCounts 76 77 83) := Is.mk' n_s_NoCounts Try.func20 (by kernel_rfl) (by kernel_rfl)
noncomputable def G61 : Gam := G60.addX 20 c_s_NoCounts
theorem gs61 : GS Try.prog G61 := GS.addX gs60 (s_s_NoCounts mixed gs60 is20 rfl rfl rfl)
theorem is21 : Is Try.prog 21 (a_NeedOf 23 74 72 84) := Is.mk' n_NeedOf Try.func21 (by kernel_rfl) (by kernel_rfl)
noncomputable def G62 : Gam := G61.addX 21 c_NeedOf
theorem gs62 : GS Try.prog G62 := GS.addX gs61 (s_NeedOf (Γ1 := G26) mixed gs61 is21 rfl rfl rfl rfl)
theorem is22 : Is Try.prog 22 (a_s_NeedOf 76 80 85) := Is.mk' n_s_NeedOf Try.func22 (by kernel_rfl) (by kernel_rfl)
noncomputable def G63 : Gam := G62.addX 22 c_NeedOf
theorem gs63 : GS Try.prog G63 := GS.addX gs62 (s_s_NeedOf mixed gs62 is22 rfl rfl rfl)
theorem is145 : Is Try.prog 145 (a_DelS 173) := Is.mk' n_DelS Try.func145 (by kernel_rfl) (by kernel_rfl)
noncomputable def G64 : Gam := G63.addX 145 (c_DelS G30 G63)
theorem gs64 : GS Try.prog G64 := GS.addX gs63 (s_DelS (Γ0 := G30) mixed gs63 is145 rfl)
theorem is90 : Is Try.prog 90 (a_nBest 84 146 147 145) := Is.mk' n_nBest Try.func90 (by kernel_rfl) (by kernel_rfl)
noncomputable def G65 : Gam := G64.addX 90 (c_nBest G28)
theorem gs65 : GS Try.prog G65 := GS.addX gs64 (s_nBest (Γ0 := G30) (Γ1 := G63) (Γ2 := G28) mixed gs64 is90 rfl rfl rfl rfl rfl)
theorem is24 : Is Try.prog 24 (a_BestSplit 70 74 72 90) := Is.mk' n_BestSplit Try.func24 (by kernel_rfl) (by kernel_rfl)
noncomputable def G66 : Gam := G65.addX 24 c_BestSplit
theorem gs66 : GS Try.prog G66 := GS.addX gs65 (s_BestSplit (Γ1 := G26) (Γ2 := G28) mixed gs65 is24 rfl rfl rfl rfl rfl)
theorem is92 : Is Try.prog 92 (a_l4Best 80 148 79 85) := Is.mk' n_l4Best Try.func92 (by kernel_rfl) (by kernel_rfl)
noncomputable def G67 : Gam := G66.addX 92 c_l4Best
theorem gs67 : GS Try.prog G67 := GS.addX gs66 (s_l4Best mixed gs66 is92 rfl rfl rfl rfl)
theorem is25 : Is Try.prog 25 (a_s_BestSplit 76 78 92 91) := Is.mk' n_s_BestSplit Try.func25 (by kernel_rfl) (by kernel_rfl)
noncomputable def G68 : Gam := G67.addX 25 c_s_BestSplit
theorem gs68 : GS Try.prog G68 := GS.addX gs67 (s_s_BestSplit mixed gs67 is25 rfl rfl rfl rfl)
theorem is26 : Is Try.prog 26 (a_CountBestSplits 70 74 72 90) := Is.mk' n_CountBestSplits Try.func26 (by kernel_rfl) (by kernel_rfl)
noncomputable def G69 : Gam := G68.addX 26 c_CountBestSplits
theorem gs69 : GS Try.prog G69 := GS.addX gs68 (s_CountBestSplits (Γ1 := G26) (Γ2 := G28) mixed gs68 is26 rfl rfl rfl rfl rfl)
theorem is27 : Is Try.prog 27 (a_s_CountBestSplits 76 78 92) := Is.mk' n_s_CountBestSplits Try.func27 (by kernel_rfl) (by kernel_rfl)
noncomputable def G70 : Gam := G69.addX 27 c_CountBestSplits
theorem gs70 : GS Try.prog G70 := GS.addX gs69 (s_s_CountBestSplits mixed gs69 is27 rfl rfl rfl)
theorem is3 : Is Try.prog 3 (a_x_Needs 12 13 14 15 16 17 18 19 20 21 22 23 24 25 26 27) := Is.mk' n_x_Needs Try.func3 (by kernel_rfl) (by kernel_rfl)
theorem law : Says Try.prog 3 c_x_Needs := s_x_Needs mixed gs70 is3 rfl rfl rfl rfl rfl rfl rfl rfl rfl rfl rfl rfl rfl rfl rfl rfl
theorem own : ownKnob Try.prog.godebug = none := by kernel_rfl
theorem laidOut : laidOutB Try.prog = true := by kernel_rfl
set_option maxRecDepth 100000 in
theorem lifted (os : Os) (started : os.Started) (H : Type) (enc : TypeId × Value → H) :
    ReturnsInHanded {} Try.checked os 3 .any (Rows.fnNeedsSpec.pre6 enc Try.prog Try.f3 Rows.fnNeedsRow.domain false) (Rows.fnNeedsSpec.post enc Try.prog Try.f3 false true false false) := by
  refine returnsInHanded_of_change (C := Try.checked) own started (by kernel_rfl) Try.func3
    (ChangeSpec.witness6 (enc := enc) (C := Try.checked) false ⟨#[], #[.slice none 0 0], []⟩ 8 (by kernel_rfl) (by kernel_rfl) (by kernel_rfl) (by kernel_rfl)) ?_
  intro W base args ds gs before hval0 hW _ _
  have hval : ∀ (j : Nat) t v, Try.f3.params[j]? = some t → args[j]? = some v → Value.okWide Try.prog W .any base t v := hval0
  obtain ⟨p, q, hA0, hV, _, _, _⟩ := id hW
  have hA : DataW.TrodAll enc Try.prog W 0 (fun _ => true) true Try.f3.params.toList args.toList ds p := hA0
  rw [Try.params3] at hA hval
  obtain ⟨v0, d0, rfl, rfl, h0⟩ := trodAll_one hA
  obtain ⟨pv0, l0, sl0, le0, hp0⟩ := open_bytesV Try.underlying22 Try.underlying5 (by kernel_rfl) (hval 0 22 v0 rfl rfl) h0
  have hcon : c_x_Needs ([pv0].map .p) [] = some (.p (.bool true), [], []) := by simp [c_x_Needs, pure', sl0, le0]
  refine (calls_true (args := [pv0]) (law _ _ _ _ _ hcon) rfl fun i hi => ?_).mono fun e W' ⟨he, hb⟩ => ⟨_, he, post_true hW rfl (fun l hl => ?_) laidOut (by kernel_rfl) (by kernel_rfl) Try.underlying4 hb⟩
  · match i, hi with
    | 0, _ => exact hp0
  · rw [Try.params3] at hl
    match l, hl with
    | [_], _ => rfl

theorem fnNeeds_holds : Rows.FnNeedsSaid :=
  OpenClaim.holds_of_wide 3 Try.f3 rfl rfl rfl rfl rfl rfl rfl ⟨rfl, rfl, rfl, rfl, rfl⟩ rfl rfl rfl rfl rfl (by kernel_rfl) Try.func3 (by kernel_rfl)
    (of_decide_eq_true (by kernel_rfl)) (by unfold Func.isWrapper; rw [if_neg (by decide +kernel)]; exact ⟨rfl, rfl⟩)
    (fun os started H enc _ => lifted os started H enc)
#print axioms fnNeeds_holds
end Go.Proofs.Ytihpfhdkjlphhaa
