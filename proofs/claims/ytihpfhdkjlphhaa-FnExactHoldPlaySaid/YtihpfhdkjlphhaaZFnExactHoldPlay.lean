/- FOR EVERY INPUT THE LAW 'FnExactHoldPlay' RETURNS TRUE, AND THE INPUT READS AS IT DID. No condition beyond the row's own. -/
import Derived.Test.YtihpfhdkjlphhaaChecked
import Derived.Test.YtihpfhdkjlphhaaRows
import Derived.Test.YtihpfhdkjlphhaaB3QM
set_option linter.unusedVariables false
set_option linter.unusedSimpArgs false
namespace Go.Proofs.Ytihpfhdkjlphhaa
open Go Go.Proofs Go.Proofs.Ytihpfhdkjlphhaa.Pam Go.ChangeShapes Go.WideShapes Go.ChangeAt Go.RowKit Go.Joins
theorem mixed : Try.prog.follows .mixedOrders = true := by kernel_rfl
def G0 : Gam := Gam.none
theorem gs0 : GS Try.prog G0 := GS.none
theorem is106 : Is Try.prog 106 a_szIntS := Is.mk' n_szIntS Try.func106 (by kernel_rfl) (by kernel_rfl)
def G1 : Gam := G0.addX 106 c_szIntS
theorem gs1 : GS Try.prog G1 := GS.addX gs0 (s_szIntS mixed gs0 is106)
theorem is50 : Is Try.prog 50 (a_szState 106) := Is.mk' n_szState Try.func50 (by kernel_rfl) (by kernel_rfl)
def G2 : Gam := G1.addX 50 c_szState
theorem gs2 : GS Try.prog G2 := GS.addX gs1 (s_szState mixed gs1 is50 rfl)
theorem is48 : Is Try.prog 48 a_toIntS := Is.mk' n_toIntS Try.func48 (by kernel_rfl) (by kernel_rfl)
def G3 : Gam := G2.addX 48 c_toIntS
theorem gs3 : GS Try.prog G3 := GS.addX gs2 (s_toIntS mixed gs2 is48)
theorem is52 : Is Try.prog 52 (a_toState 48) := Is.mk' n_toState Try.func52 (by kernel_rfl) (by kernel_rfl)
def G4 : Gam := G3.addX 52 c_toState
theorem gs4 : GS Try.prog G4 := GS.addX gs3 (s_toState mixed gs3 is52 rfl)
theorem is102 : Is Try.prog 102 a_l1In := Is.mk' n_l1In Try.func102 (by kernel_rfl) (by kernel_rfl)
def G5 : Gam := G4.addX 102 c_in
theorem gs5 : GS Try.prog G5 := GS.addX gs4 (s_l1In mixed gs4 is102)
theorem is107 : Is Try.prog 107 (a_l2State 102) := Is.mk' n_l2State Try.func107 (by kernel_rfl) (by kernel_rfl)
def G6 : Gam := G5.addX 107 c_IsState
theorem gs6 : GS Try.prog G6 := GS.addX gs5 (s_l2State mixed gs5 is107 rfl)
theorem is174 : Is Try.prog 174 (a_l2Numbers 102) := Is.mk' n_l2Numbers Try.func174 (by kernel_rfl) (by kernel_rfl)
def G7 : Gam := G6.addX 174 c_isCount
theorem gs7 : GS Try.prog G7 := GS.addX gs6 (s_l2Numbers mixed gs6 is174 rfl)
theorem is153 : Is Try.prog 153 (a_l2Asks 174 102) := Is.mk' n_l2Asks Try.func153 (by kernel_rfl) (by kernel_rfl)
def G8 : Gam := G7.addX 153 c_isQuestion
theorem gs8 : GS Try.prog G8 := GS.addX gs7 (s_l2Asks mixed gs7 is153 rfl rfl)
theorem is108 : Is Try.prog 108 (a_l2Question 153) := Is.mk' n_l2Question Try.func108 (by kernel_rfl) (by kernel_rfl)
def G9 : Gam := G8.addX 108 c_l2Question
theorem gs9 : GS Try.prog G9 := GS.addX gs8 (s_l2Question mixed gs8 is108 rfl)
theorem is127 : Is Try.prog 127 (a_l8Good 107 108) := Is.mk' n_l8Good Try.func127 (by kernel_rfl) (by kernel_rfl)
def G10 : Gam := G9.addX 127 c_areListed
theorem gs10 : GS Try.prog G10 := GS.addX gs9 (s_l8Good mixed gs9 is127 rfl rfl)
theorem is109 : Is Try.prog 109 a_l2Open := Is.mk' n_l2Open Try.func109 (by kernel_rfl) (by kernel_rfl)
def G11 : Gam := G10.addX 109 c_l2Open
theorem gs11 : GS Try.prog G11 := GS.addX gs10 (s_l2Open mixed gs10 is109)
theorem is140 : Is Try.prog 140 a_l4Counted := Is.mk' n_l4Counted Try.func140 (by kernel_rfl) (by kernel_rfl)
def G12 : Gam := G11.addX 140 c_l4Counted
theorem gs12 : GS Try.prog G12 := GS.addX gs11 (s_l4Counted mixed gs11 is140)
theorem is78 : Is Try.prog 78 a_l4Told := Is.mk' n_l4Told Try.func78 (by kernel_rfl) (by kernel_rfl)
def G13 : Gam := G12.addX 78 c_isTold
theorem gs13 : GS Try.prog G13 := GS.addX gs12 (s_l4Told mixed gs12 is78)
theorem is76 : Is Try.prog 76 (a_l4Counts 102) := Is.mk' n_l4Counts Try.func76 (by kernel_rfl) (by kernel_rfl)
def G14 : Gam := G13.addX 76 c_AreCounts
theorem gs14 : GS Try.prog G14 := GS.addX gs13 (s_l4Counts mixed gs13 is76 rfl)
theorem is91 : Is Try.prog 91 a_l1Own := Is.mk' n_l1Own Try.func91 (by kernel_rfl) (by kernel_rfl)
def G15 : Gam := G14.addX 91 c_Clone
theorem gs15 : GS Try.prog G15 := GS.addX gs14 (s_l1Own mixed gs14 is91)
theorem is148 : Is Try.prog 148 (a_l4Splits 91) := Is.mk' n_l4Splits Try.func148 (by kernel_rfl) (by kernel_rfl)
def G16 : Gam := G15.addX 148 c_splits
theorem gs16 : GS Try.prog G16 := GS.addX gs15 (s_l4Splits mixed gs15 is148 rfl)
theorem is142 : Is Try.prog 142 a_l4Rest := Is.mk' n_l4Rest Try.func142 (by kernel_rfl) (by kernel_rfl)
def G17 : Gam := G16.addX 142 c_left
theorem gs17 : GS Try.prog G17 := GS.addX gs16 (s_l4Rest mixed gs16 is142)
theorem is82 : Is Try.prog 82 (a_l4Yes 142 91) := Is.mk' n_l4Yes Try.func82 (by kernel_rfl) (by kernel_rfl)
def G18 : Gam := G17.addX 82 c_l4Yes
theorem gs18 : GS Try.prog G18 := GS.addX gs17 (s_l4Yes mixed gs17 is82 rfl rfl)
theorem is85 : Is Try.prog 85 a_l4Key := Is.mk' n_l4Key Try.func85 (by kernel_rfl) (by kernel_rfl)
def G19 : Gam := G18.addX 85 c_l4Key
theorem gs19 : GS Try.prog G19 := GS.addX gs18 (s_l4Key mixed gs18 is85)
theorem is83 : Is Try.prog 83 (a_l4No 142 82) := Is.mk' n_l4No Try.func83 (by kernel_rfl) (by kernel_rfl)
def G20 : Gam := G19.addX 83 c_l4No
theorem gs20 : GS Try.prog G20 := GS.addX gs19 (s_l4No mixed gs19 is83 rfl rfl)
theorem is141 : Is Try.prog 141 (a_l4Within 148 82 85 83) := Is.mk' n_l4Within Try.func141 (by kernel_rfl) (by kernel_rfl)
def G21 : Gam := G20.addX 141 c_l4Within
theorem gs21 : GS Try.prog G21 := GS.addX gs20 (s_l4Within mixed gs20 is141 rfl rfl rfl rfl)
theorem is80 : Is Try.prog 80 (a_l4Needs 140 78 76 141) := Is.mk' n_l4Needs Try.func80 (by kernel_rfl) (by kernel_rfl)
def G22 : Gam := G21.addX 80 c_l4Needs
theorem gs22 : GS Try.prog G22 := GS.addX gs21 (s_l4Needs mixed gs21 is80 rfl rfl rfl rfl)
theorem is164 : Is Try.prog 164 a_l2False := Is.mk' n_l2False Try.func164 (by kernel_rfl) (by kernel_rfl)
def G23 : Gam := G22.addX 164 c_l2False
theorem gs23 : GS Try.prog G23 := GS.addX gs22 (s_l2False mixed gs22 is164)
theorem is128 : Is Try.prog 128 (a_l2After 91 164) := Is.mk' n_l2After Try.func128 (by kernel_rfl) (by kernel_rfl)
def G24 : Gam := G23.addX 128 c_l2After
theorem gs24 : GS Try.prog G24 := GS.addX gs23 (s_l2After mixed gs23 is128 rfl rfl)
theorem is121 : Is Try.prog 121 a_l2Counts := Is.mk' n_l2Counts Try.func121 (by kernel_rfl) (by kernel_rfl)
def G25 : Gam := G24.addX 121 c_countsS
theorem gs25 : GS Try.prog G25 := GS.addX gs24 (s_l2Counts mixed gs24 is121)
theorem is110 : Is Try.prog 110 (a_l8Hold 128 121 85) := Is.mk' n_l8Hold Try.func110 (by kernel_rfl) (by kernel_rfl)
def G26 : Gam := G25.addX 110 c_l8Hold
theorem gs26 : GS Try.prog G26 := GS.addX gs25 (s_l8Hold mixed gs25 is110 rfl rfl rfl)
theorem is61 : Is Try.prog 61 (a_s_HoldPlay 127 109 80 91 110 128) := Is.mk' n_s_HoldPlay Try.func61 (by kernel_rfl) (by kernel_rfl)
def G27 : Gam := G26.addX 61 c_s_HoldPlay
theorem gs27 : GS Try.prog G27 := GS.addX gs26 (s_s_HoldPlay mixed gs26 is61 rfl rfl rfl rfl rfl rfl)
theorem is86 : Is Try.prog 86 a_in := Is.mk' n_in Try.func86 (by kernel_rfl) (by kernel_rfl)
def G28 : Gam := G27.addX 86 c_in
theorem gs28 : GS Try.prog G28 := GS.addX gs27 (s_in mixed gs27 is86)
theorem is161 : Is Try.prog 161 (a_isCount 86) := Is.mk' n_isCount Try.func161 (by kernel_rfl) (by kernel_rfl)
def G29 : Gam := G28.addX 161 c_isCount
theorem gs29 : GS Try.prog G29 := GS.addX gs28 (s_isCount mixed gs28 is161 rfl)
theorem is100 : Is Try.prog 100 (a_isMost 86) := Is.mk' n_isMost Try.func100 (by kernel_rfl) (by kernel_rfl)
def G30 : Gam := G29.addX 100 c_isMost
theorem gs30 : GS Try.prog G30 := GS.addX gs29 (s_isMost mixed gs29 is100 rfl)
theorem is162 : Is Try.prog 162 (a_IsState1 86) := Is.mk' n_IsState1 Try.func162 (by kernel_rfl) (by kernel_rfl)
def G31 : Gam := G30.addX 162 c_IsState1
theorem gs31 : GS Try.prog G31 := GS.addX gs30 (s_IsState1 mixed gs30 is162 rfl)
theorem is125 : Is Try.prog 125 (a_isQuestion 161 86) := Is.mk' n_isQuestion Try.func125 (by kernel_rfl) (by kernel_rfl)
def G32 : Gam := G31.addX 125 c_isQuestion
theorem gs32 : GS Try.prog G32 := GS.addX gs31 (s_isQuestion mixed gs31 is125 rfl rfl)
theorem is154 : Is Try.prog 154 (a_areListed1 125) := Is.mk' n_areListed1 Try.func154 (by kernel_rfl) (by kernel_rfl)
def G33 : Gam := G32.addX 154 c_areListed1
theorem gs33 : GS Try.prog G33 := GS.addX gs32 (s_areListed1 mixed gs32 is154 rfl)
theorem is144 : Is Try.prog 144 a_IndexFunc := Is.mk' n_IndexFunc Try.func144 (by kernel_rfl) (by kernel_rfl)
def G34 : Gam := G33.addX 144 (c_IndexFunc G33)
theorem gs34 : GS Try.prog G34 := GS.addX gs33 (s_IndexFunc mixed gs33 is144)
theorem is87 : Is Try.prog 87 (a_ContainsFunc 144) := Is.mk' n_ContainsFunc Try.func87 (by kernel_rfl) (by kernel_rfl)
def G35 : Gam := G34.addX 87 (c_ContainsFunc G33)
theorem gs35 : GS Try.prog G35 := GS.addX gs34 (s_ContainsFunc (Γ0 := G33) mixed gs34 is87 rfl)
theorem is122 : Is Try.prog 122 (a_IsState 161 100 162 87) := Is.mk' n_IsState Try.func122 (by kernel_rfl) (by kernel_rfl)
def G36 : Gam := G35.addX 122 c_IsState
theorem gs36 : GS Try.prog G36 := GS.addX gs35 (s_IsState (Γ0 := G33) mixed gs35 is122 rfl rfl rfl rfl)
theorem is111 : Is Try.prog 111 (a_areListed 122 154 87) := Is.mk' n_areListed Try.func111 (by kernel_rfl) (by kernel_rfl)
def G37 : Gam := G36.addX 111 c_areListed
theorem gs37 : GS Try.prog G37 := GS.addX gs36 (s_areListed (Γ0 := G33) mixed gs36 is111 rfl rfl rfl)
theorem is112 : Is Try.prog 112 a_opened := Is.mk' n_opened Try.func112 (by kernel_rfl) (by kernel_rfl)
def G38 : Gam := G37.addX 112 c_l2Open
theorem gs38 : GS Try.prog G38 := GS.addX gs37 (s_opened mixed gs37 is112)
theorem is149 : Is Try.prog 149 a_Clone := Is.mk' n_Clone Try.func149 (by kernel_rfl) (by kernel_rfl)
def G39 : Gam := G38.addX 149 c_Clone
theorem gs39 : GS Try.prog G39 := GS.addX gs38 (s_Clone mixed gs38 is149)
theorem is146 : Is Try.prog 146 (a_splits 149) := Is.mk' n_splits Try.func146 (by kernel_rfl) (by kernel_rfl)
def G40 : Gam := G39.addX 146 c_splits
theorem gs40 : GS Try.prog G40 := GS.addX gs39 (s_splits mixed gs39 is146 rfl)
theorem is143 : Is Try.prog 143 a_tripleOf := Is.mk' n_tripleOf Try.func143 (by kernel_rfl) (by kernel_rfl)
def G41 : Gam := G40.addX 143 c_tripleOf
theorem gs41 : GS Try.prog G41 := GS.addX gs40 (s_tripleOf mixed gs40 is143)
theorem is136 : Is Try.prog 136 a_left := Is.mk' n_left Try.func136 (by kernel_rfl) (by kernel_rfl)
def G42 : Gam := G41.addX 136 c_left
theorem gs42 : GS Try.prog G42 := GS.addX gs41 (s_left mixed gs41 is136)
theorem is137 : Is Try.prog 137 (a_moved 149) := Is.mk' n_moved Try.func137 (by kernel_rfl) (by kernel_rfl)
def G43 : Gam := G42.addX 137 c_moved
theorem gs43 : GS Try.prog G43 := GS.addX gs42 (s_moved mixed gs42 is137 rfl)
theorem is72 : Is Try.prog 72 (a_bothWays 136 137) := Is.mk' n_bothWays Try.func72 (by kernel_rfl) (by kernel_rfl)
def G44 : Gam := G43.addX 72 c_bothWays
theorem gs44 : GS Try.prog G44 := GS.addX gs43 (s_bothWays mixed gs43 is72 rfl rfl)
theorem is169 : Is Try.prog 169 (a_needs1 143) := Is.mk' n_needs1 Try.func169 (by kernel_rfl) (by kernel_rfl)
noncomputable def G45 : Gam := G44.addX 169 (c_needs1 G44)
theorem gs45 : GS Try.prog G45 := GS.addX gs44 (s_needs1 mixed gs44 is169 rfl)
theorem is173 : Is Try.prog 173 a_IndexFuncS := Is.mk' n_IndexFuncS Try.func173 (by kernel_rfl) (by kernel_rfl)
noncomputable def G46 : Gam := G45.addX 173 (c_IndexFuncS G45)
theorem gs46 : GS Try.prog G46 := GS.addX gs45 (s_IndexFuncS mixed gs45 is173)
theorem is168 : Is Try.prog 168 (a_ContainsFuncS 173) := Is.mk' n_ContainsFuncS Try.func168 (by kernel_rfl) (by kernel_rfl)
noncomputable def G47 : Gam := G46.addX 168 (c_ContainsFuncS G45)
theorem gs47 : GS Try.prog G47 := GS.addX gs46 (s_ContainsFuncS (Γ0 := G45) mixed gs46 is168 rfl)
theorem is179 : Is Try.prog 179 a_IndexT := Is.mk' n_IndexT Try.func179 (by kernel_rfl) (by kernel_rfl)
noncomputable def G48 : Gam := G47.addX 179 c_IndexT
theorem gs48 : GS Try.prog G48 := GS.addX gs47 (s_IndexT mixed gs47 is179)
theorem is172 : Is Try.prog 172 (a_ContainsT 179) := Is.mk' n_ContainsT Try.func172 (by kernel_rfl) (by kernel_rfl)
noncomputable def G49 : Gam := G48.addX 172 c_ContainsT
theorem gs49 : GS Try.prog G49 := GS.addX gs48 (s_ContainsT mixed gs48 is172 rfl)
theorem is171 : Is Try.prog 171 (a_needs2 172) := Is.mk' n_needs2 Try.func171 (by kernel_rfl) (by kernel_rfl)
noncomputable def G50 : Gam := G49.addX 171 c_needs2
theorem gs50 : GS Try.prog G50 := GS.addX gs49 (s_needs2 mixed gs49 is171 rfl)
theorem is178 : Is Try.prog 178 a_IndexFuncT := Is.mk' n_IndexFuncT Try.func178 (by kernel_rfl) (by kernel_rfl)
noncomputable def G51 : Gam := G50.addX 178 (c_IndexFuncT G50)
theorem gs51 : GS Try.prog G51 := GS.addX gs50 (s_IndexFuncT mixed gs50 is178)
theorem is170 : Is Try.prog 170 (a_DelT 178) := Is.mk' n_DelT Try.func170 (by kernel_rfl) (by kernel_rfl)
noncomputable def G52 : Gam := G51.addX 170 (c_DelT G50 G51)
theorem gs52 : GS Try.prog G52 := GS.addX gs51 (s_DelT (Γ0 := G50) mixed gs51 is170 rfl)
theorem is138 : Is Try.prog 138 (a_needs 146 169 168 171 170) := Is.mk' n_needs Try.func138 (by kernel_rfl) (by kernel_rfl)
noncomputable def G53 : Gam := G52.addX 138 (c_needs G44)
theorem gs53 : GS Try.prog G53 := GS.addX gs52 (s_needs (Γ0 := G45) (Γ1 := G44) (Γ2 := G50) (Γ3 := G51) mixed gs52 is138 rfl rfl rfl rfl rfl rfl)
theorem is74 : Is Try.prog 74 (a_neederOf 138) := Is.mk' n_neederOf Try.func74 (by kernel_rfl) (by kernel_rfl)
noncomputable def G54 : Gam := G53.addX 74 (c_neederOf G44)
theorem gs54 : GS Try.prog G54 := GS.addX gs53 (s_neederOf (Γ1 := G44) mixed gs53 is74 rfl)
theorem is163 : Is Try.prog 163 a_has := Is.mk' n_has Try.func163 (by kernel_rfl) (by kernel_rfl)
noncomputable def G55 : Gam := G54.addX 163 c_has
theorem gs55 : GS Try.prog G55 := GS.addX gs54 (s_has mixed gs54 is163)
theorem is165 : Is Try.prog 165 (a_isFalse 163) := Is.mk' n_isFalse Try.func165 (by kernel_rfl) (by kernel_rfl)
noncomputable def G56 : Gam := G55.addX 165 c_isFalse
theorem gs56 : GS Try.prog G56 := GS.addX gs55 (s_isFalse mixed gs55 is165 rfl)
theorem is130 : Is Try.prog 130 a_AnswerList1 := Is.mk' n_AnswerList1 Try.func130 (by kernel_rfl) (by kernel_rfl)
noncomputable def G57 : Gam := G56.addX 130 c_no
theorem gs57 : GS Try.prog G57 := GS.addX gs56 (s_AnswerList1 mixed gs56 is130)
theorem is129 : Is Try.prog 129 (a_after 149) := Is.mk' n_after Try.func129 (by kernel_rfl) (by kernel_rfl)
noncomputable def G58 : Gam := G57.addX 129 (c_after G57)
theorem gs58 : GS Try.prog G58 := GS.addX gs57 (s_after mixed gs57 is129 rfl)
theorem is131 : Is Try.prog 131 (a_answered 165 129) := Is.mk' n_answered Try.func131 (by kernel_rfl) (by kernel_rfl)
noncomputable def G59 : Gam := G58.addX 131 c_answered
theorem gs59 : GS Try.prog G59 := GS.addX gs58 (s_answered (Γ0 := G57) mixed gs58 is131 rfl rfl)
theorem is155 : Is Try.prog 155 (a_bothA 131) := Is.mk' n_bothA Try.func155 (by kernel_rfl) (by kernel_rfl)
noncomputable def G60 : Gam := G59.addX 155 c_bothA
theorem gs60 : GS Try.prog G60 := GS.addX gs59 (s_bothA mixed gs59 is155 rfl)
theorem is123 : Is Try.prog 123 a_countsS := Is.mk' n_countsS Try.func123 (by kernel_rfl) (by kernel_rfl)
noncomputable def G61 : Gam := G60.addX 123 c_countsS
theorem gs61 : GS Try.prog G61 := GS.addX gs60 (s_countsS mixed gs60 is123)
theorem is84 : Is Try.prog 84 (a_nOf 143) := Is.mk' n_nOf Try.func84 (by kernel_rfl) (by kernel_rfl)
noncomputable def G62 : Gam := G61.addX 84 c_nOf
theorem gs62 : GS Try.prog G62 := GS.addX gs61 (s_nOf mixed gs61 is84 rfl)
theorem is113 : Is Try.prog 113 (a_hold 155 123 84) := Is.mk' n_hold Try.func113 (by kernel_rfl) (by kernel_rfl)
noncomputable def G63 : Gam := G62.addX 113 c_hold
theorem gs63 : GS Try.prog G63 := GS.addX gs62 (s_hold mixed gs62 is113 rfl rfl rfl)
theorem is62 : Is Try.prog 62 (a_HoldPlay 111 112 74 72 129 130 113 131) := Is.mk' n_HoldPlay Try.func62 (by kernel_rfl) (by kernel_rfl)
noncomputable def G64 : Gam := G63.addX 62 c_HoldPlay
theorem gs64 : GS Try.prog G64 := GS.addX gs63 (s_HoldPlay (Γ0 := G57) (Γ1 := G44) mixed gs63 is62 rfl rfl rfl rfl rfl rfl rfl rfl)
theorem is63 : Is Try.prog 63 a_eqBoolS := Is.mk' n_eqBoolS Try.func63 (by kernel_rfl) (by kernel_rfl)
noncomputable def G65 : Gam := G64.addX 63 c_eqBoolS
theorem gs65 : GS Try.prog G65 := GS.addX gs64 (s_eqBoolS mixed gs64 is63)
theorem is49 : Is Try.prog 49 a_eqIntS := Is.mk' n_eqIntS Try.func49 (by kernel_rfl) (by kernel_rfl)
noncomputable def G66 : Gam := G65.addX 49 c_eqIntS
theorem gs66 : GS Try.prog G66 := GS.addX gs65 (s_eqIntS mixed gs65 is49)
theorem is54 : Is Try.prog 54 (a_eqState 49) := Is.mk' n_eqState Try.func54 (by kernel_rfl) (by kernel_rfl)
noncomputable def G67 : Gam := G66.addX 54 c_eqState
theorem gs67 : GS Try.prog G67 := GS.addX gs66 (s_eqState mixed gs66 is54 rfl)
theorem is65 : Is Try.prog 65 a_markIntS := Is.mk' n_markIntS Try.func65 (by kernel_rfl) (by kernel_rfl)
noncomputable def G68 : Gam := G67.addX 65 c_markIntS
theorem gs68 : GS Try.prog G68 := GS.addX gs67 (s_markIntS mixed gs67 is65)
theorem is64 : Is Try.prog 64 (a_markState 65) := Is.mk' n_markState Try.func64 (by kernel_rfl) (by kernel_rfl)
noncomputable def G69 : Gam := G68.addX 64 c_markState
theorem gs69 : GS Try.prog G69 := GS.addX gs68 (s_markState mixed gs68 is64 rfl)
theorem is66 : Is Try.prog 66 a_markBoolS := Is.mk' n_markBoolS Try.func66 (by kernel_rfl) (by kernel_rfl)
noncomputable def G70 : Gam := G69.addX 66 c_markBoolS
theorem gs70 : GS Try.prog G70 := GS.addX gs69 (s_markBoolS mixed gs69 is66)
theorem is67 : Is Try.prog 67 a_heldBoolS := Is.mk' n_heldBoolS Try.func67 (by kernel_rfl) (by kernel_rfl)
noncomputable def G71 : Gam := G70.addX 67 c_heldBoolS
theorem gs71 : GS Try.prog G71 := GS.addX gs70 (s_heldBoolS mixed gs70 is67)
theorem is132 : Is Try.prog 132 a_heldIntS := Is.mk' n_heldIntS Try.func132 (by kernel_rfl) (by kernel_rfl)
noncomputable def G72 : Gam := G71.addX 132 c_heldIntS
theorem gs72 : GS Try.prog G72 := GS.addX gs71 (s_heldIntS mixed gs71 is132)
theorem is68 : Is Try.prog 68 (a_heldState 132) := Is.mk' n_heldState Try.func68 (by kernel_rfl) (by kernel_rfl)
noncomputable def G73 : Gam := G72.addX 68 c_heldState
theorem gs73 : GS Try.prog G73 := GS.addX gs72 (s_heldState mixed gs72 is68 rfl)
theorem is11 : Is Try.prog 11 (a_x_HoldPlay 50 52 48 61 62 63 54 49 64 65 66 67 68) := Is.mk' n_x_HoldPlay Try.func11 (by kernel_rfl) (by kernel_rfl)
theorem law : Says Try.prog 11 c_x_HoldPlay := s_x_HoldPlay mixed gs73 is11 rfl rfl rfl rfl rfl rfl rfl rfl rfl rfl rfl rfl rfl
theorem own : ownKnob Try.prog.godebug = none := by kernel_rfl
theorem laidOut : laidOutB Try.prog = true := by kernel_rfl
set_option maxRecDepth 100000 in
theorem lifted (os : Os) (started : os.Started) (H : Type) (enc : TypeId × Value → H) :
    ReturnsInHanded {} Try.checked os 11 .any (Rows.fnExactHoldPlaySpec.pre6 enc Try.prog Try.f11 Rows.fnExactHoldPlayRow.domain false) (Rows.fnExactHoldPlaySpec.post enc Try.prog Try.f11 false true false false) := by
  refine returnsInHanded_of_change (C := Try.checked) own started (by kernel_rfl) Try.func11
    (ChangeSpec.witness6 (enc := enc) (C := Try.checked) false ⟨#[], #[.agg #[.slice none 0 0, .int .i64 0], .slice none 0 0], []⟩ 8 (by kernel_rfl) (by kernel_rfl) (by kernel_rfl) (by kernel_rfl)) ?_
  intro W base args ds gs before hval0 hW _ _
  have hval : ∀ (j : Nat) t v, Try.f11.params[j]? = some t → args[j]? = some v → Value.okWide Try.prog W .any base t v := hval0
  obtain ⟨p, q, hA0, hV, _, _, _⟩ := id hW
  have hA : DataW.TrodAll enc Try.prog W 0 (fun _ => true) true Try.f11.params.toList args.toList ds p := hA0
  rw [Try.params11] at hA hval
  obtain ⟨v0, v1, d0, d1, p0, p1, rfl, rfl, rfl, h0, h1⟩ := trodAll_two hA
  obtain ⟨pv0, l0, m0, sl0, le0, hp0⟩ := open_state' Try.underlying45 (by kernel_rfl) (by kernel_rfl) (by kernel_rfl) Try.underlying24 Try.underlying3 (by kernel_rfl) Try.underlying3 (hval 0 45 v0 rfl rfl) h0
  obtain ⟨pv1, l1, sl1, le1, hp1⟩ := open_intsV Try.underlying24 Try.underlying3 (by kernel_rfl) (hval 1 24 v1 rfl rfl) h1
  have hcon : c_x_HoldPlay ([.agg [pv0, .int .i64 m0], pv1].map .p) [] = some (.p (.bool true), [], []) := by simp [c_x_HoldPlay, pure', sl0, le0, sl1, le1]
  refine (calls_true (args := [.agg [pv0, .int .i64 m0], pv1]) (law _ _ _ _ _ hcon) rfl fun i hi => ?_).mono fun e W' ⟨he, hb⟩ => ⟨_, he, post_true hW rfl (fun l hl => ?_) laidOut (by kernel_rfl) (by kernel_rfl) Try.underlying4 hb⟩
  · match i, hi with
    | 0, _ => exact hp0
    | 1, _ => exact hp1
  · rw [Try.params11] at hl
    match l, hl with
    | [_, _], _ => rfl

theorem fnExactHoldPlay_holds : Rows.FnExactHoldPlaySaid :=
  OpenClaim.holds_of_wide 11 Try.f11 rfl rfl rfl rfl rfl rfl rfl ⟨rfl, rfl, rfl, rfl, rfl⟩ rfl rfl rfl rfl rfl (by kernel_rfl) Try.func11 (by kernel_rfl)
    (of_decide_eq_true (by kernel_rfl)) (by unfold Func.isWrapper; rw [if_neg (by decide +kernel)]; exact ⟨rfl, rfl⟩)
    (fun os started H enc _ => lifted os started H enc)
#print axioms fnExactHoldPlay_holds
end Go.Proofs.Ytihpfhdkjlphhaa
