/- FOR EVERY INPUT THE LAW 'FnDecoded' RETURNS TRUE, AND THE INPUT READS AS IT DID. No condition beyond the row's own. -/
import Derived.Test.YtmbljmolegalhaaChecked
import Derived.Test.YtmbljmolegalhaaRows
import Derived.Test.YtmbljmolegalhaaGbQG
set_option linter.unusedVariables false
set_option linter.unusedSimpArgs false
namespace Go.Proofs.Ytmbljmolegalhaa
open Go Go.Proofs Go.Proofs.Ytmbljmolegalhaa.Pam Go.ChangeShapes Go.WideShapes Go.ChangeAt Go.RowKit Go.Joins
theorem mixed : Try.prog.follows .mixedOrders = true := by kernel_rfl
def G0 : Gam := Gam.none
theorem gs0 : GS Try.prog G0 := GS.none
theorem is22 : Is Try.prog 22 a_vBigD := Is.mk' n_vBigD Try.func22 (by kernel_rfl) (by kernel_rfl)
def G1 : Gam := G0.addX 22 c_vBigD
theorem gs1 : GS Try.prog G1 := GS.addX gs0 (s_vBigD mixed gs0 is22)
theorem is105 : Is Try.prog 105 a_next := Is.mk' n_next Try.func105 (by kernel_rfl) (by kernel_rfl)
def G2 : Gam := G1.addX 105 c_next
theorem gs2 : GS Try.prog G2 := GS.addX gs1 (s_next mixed gs1 is105)
theorem is81 : Is Try.prog 81 (a_pick 105) := Is.mk' n_pick Try.func81 (by kernel_rfl) (by kernel_rfl)
def G3 : Gam := G2.addX 81 c_pick
theorem gs3 : GS Try.prog G3 := GS.addX gs2 (s_pick mixed gs2 is81 rfl)
theorem is80 : Is Try.prog 80 (a_among 81) := Is.mk' n_among Try.func80 (by kernel_rfl) (by kernel_rfl)
def G4 : Gam := G3.addX 80 c_among
theorem gs4 : GS Try.prog G4 := GS.addX gs3 (s_among mixed gs3 is80 rfl)
theorem is92 : Is Try.prog 92 (a_many 80) := Is.mk' n_many Try.func92 (by kernel_rfl) (by kernel_rfl)
def G5 : Gam := G4.addX 92 c_many
theorem gs5 : GS Try.prog G5 := GS.addX gs4 (s_many mixed gs4 is92 rfl)
theorem is102 : Is Try.prog 102 a_l1In := Is.mk' n_l1In Try.func102 (by kernel_rfl) (by kernel_rfl)
def G6 : Gam := G5.addX 102 c_in
theorem gs6 : GS Try.prog G6 := GS.addX gs5 (s_l1In mixed gs5 is102)
theorem is101 : Is Try.prog 101 (a_l2Numbers 102) := Is.mk' n_l2Numbers Try.func101 (by kernel_rfl) (by kernel_rfl)
def G7 : Gam := G6.addX 101 c_isCount
theorem gs7 : GS Try.prog G7 := GS.addX gs6 (s_l2Numbers mixed gs6 is101 rfl)
theorem is108 : Is Try.prog 108 a_l5Apart := Is.mk' n_l5Apart Try.func108 (by kernel_rfl) (by kernel_rfl)
def G8 : Gam := G7.addX 108 c_l5Apart
theorem gs8 : GS Try.prog G8 := GS.addX gs7 (s_l5Apart mixed gs7 is108)
theorem is133 : Is Try.prog 133 (a_l5Fit 108) := Is.mk' n_l5Fit Try.func133 (by kernel_rfl) (by kernel_rfl)
def G9 : Gam := G8.addX 133 c_l5Fit
theorem gs9 : GS Try.prog G9 := GS.addX gs8 (s_l5Fit mixed gs8 is133 rfl)
theorem is125 : Is Try.prog 125 (a_l5Greedy 133) := Is.mk' n_l5Greedy Try.func125 (by kernel_rfl) (by kernel_rfl)
def G10 : Gam := G9.addX 125 c_l5Greedy
theorem gs10 : GS Try.prog G10 := GS.addX gs9 (s_l5Greedy mixed gs9 is125 rfl)
theorem is126 : Is Try.prog 126 a_l5Of := Is.mk' n_l5Of Try.func126 (by kernel_rfl) (by kernel_rfl)
def G11 : Gam := G10.addX 126 c_l5Of
theorem gs11 : GS Try.prog G11 := GS.addX gs10 (s_l5Of mixed gs10 is126)
theorem is114 : Is Try.prog 114 (a_GreedyScheme 101 102 125 126) := Is.mk' n_GreedyScheme Try.func114 (by kernel_rfl) (by kernel_rfl)
def G12 : Gam := G11.addX 114 c_GreedyScheme
theorem gs12 : GS Try.prog G12 := GS.addX gs11 (s_GreedyScheme mixed gs11 is114 rfl rfl rfl rfl)
theorem is115 : Is Try.prog 115 (a_BitScheme 101 126) := Is.mk' n_BitScheme Try.func115 (by kernel_rfl) (by kernel_rfl)
def G13 : Gam := G12.addX 115 c_BitScheme
theorem gs13 : GS Try.prog G13 := GS.addX gs12 (s_BitScheme mixed gs12 is115 rfl rfl)
theorem is94 : Is Try.prog 94 (a_one 81) := Is.mk' n_one Try.func94 (by kernel_rfl) (by kernel_rfl)
def G14 : Gam := G13.addX 94 c_one
theorem gs14 : GS Try.prog G14 := GS.addX gs13 (s_one mixed gs13 is94 rfl)
theorem is127 : Is Try.prog 127 a_l1LeastD := Is.mk' n_l1LeastD Try.func127 (by kernel_rfl) (by kernel_rfl)
def G15 : Gam := G14.addX 127 c_l1LeastD
theorem gs15 : GS Try.prog G15 := GS.addX gs14 (s_l1LeastD mixed gs14 is127)
theorem is60 : Is Try.prog 60 a_l1Most := Is.mk' n_l1Most Try.func60 (by kernel_rfl) (by kernel_rfl)
def G16 : Gam := G15.addX 60 c_l1Most
theorem gs16 : GS Try.prog G16 := GS.addX gs15 (s_l1Most mixed gs15 is60)
theorem is116 : Is Try.prog 116 (a_question 94 127 60 80 81) := Is.mk' n_question Try.func116 (by kernel_rfl) (by kernel_rfl)
def G17 : Gam := G16.addX 116 c_question
theorem gs17 : GS Try.prog G17 := GS.addX gs16 (s_question mixed gs16 is116 rfl rfl rfl rfl rfl)
theorem is93 : Is Try.prog 93 (a_scheme5 81 114 115 94 116 80) := Is.mk' n_scheme5 Try.func93 (by kernel_rfl) (by kernel_rfl)
def G18 : Gam := G17.addX 93 c_scheme5
theorem gs18 : GS Try.prog G18 := GS.addX gs17 (s_scheme5 mixed gs17 is93 rfl rfl rfl rfl rfl rfl)
theorem is67 : Is Try.prog 67 (a_doubt7 80 81) := Is.mk' n_doubt7 Try.func67 (by kernel_rfl) (by kernel_rfl)
def G19 : Gam := G18.addX 67 c_doubt7
theorem gs19 : GS Try.prog G19 := GS.addX gs18 (s_doubt7 mixed gs18 is67 rfl rfl)
theorem is52 : Is Try.prog 52 (a_DrawCD 92 93 94 67) := Is.mk' n_DrawCD Try.func52 (by kernel_rfl) (by kernel_rfl)
def G20 : Gam := G19.addX 52 c_DrawCD
theorem gs20 : GS Try.prog G20 := GS.addX gs19 (s_DrawCD mixed gs19 is52 rfl rfl rfl rfl)
theorem is69 : Is Try.prog 69 a_in := Is.mk' n_in Try.func69 (by kernel_rfl) (by kernel_rfl)
def G21 : Gam := G20.addX 69 c_in
theorem gs21 : GS Try.prog G21 := GS.addX gs20 (s_in mixed gs20 is69)
theorem is103 : Is Try.prog 103 (a_isCount 69) := Is.mk' n_isCount Try.func103 (by kernel_rfl) (by kernel_rfl)
def G22 : Gam := G21.addX 103 c_isCount
theorem gs22 : GS Try.prog G22 := GS.addX gs21 (s_isCount mixed gs21 is103 rfl)
theorem is64 : Is Try.prog 64 (a_isQuestion 103 69) := Is.mk' n_isQuestion Try.func64 (by kernel_rfl) (by kernel_rfl)
def G23 : Gam := G22.addX 64 c_isQuestion
theorem gs23 : GS Try.prog G23 := GS.addX gs22 (s_isQuestion mixed gs22 is64 rfl rfl)
theorem is118 : Is Try.prog 118 (a_IsScheme1 64) := Is.mk' n_IsScheme1 Try.func118 (by kernel_rfl) (by kernel_rfl)
def G24 : Gam := G23.addX 118 c_IsScheme1
theorem gs24 : GS Try.prog G24 := GS.addX gs23 (s_IsScheme1 mixed gs23 is118 rfl)
theorem is128 : Is Try.prog 128 a_IndexFunc := Is.mk' n_IndexFunc Try.func128 (by kernel_rfl) (by kernel_rfl)
def G25 : Gam := G24.addX 128 (c_IndexFunc G24)
theorem gs25 : GS Try.prog G25 := GS.addX gs24 (s_IndexFunc mixed gs24 is128)
theorem is117 : Is Try.prog 117 (a_ContainsFunc 128) := Is.mk' n_ContainsFunc Try.func117 (by kernel_rfl) (by kernel_rfl)
def G26 : Gam := G25.addX 117 (c_ContainsFunc G24)
theorem gs26 : GS Try.prog G26 := GS.addX gs25 (s_ContainsFunc (Γ0 := G24) mixed gs25 is117 rfl)
theorem is95 : Is Try.prog 95 (a_IsScheme 103 118 117) := Is.mk' n_IsScheme Try.func95 (by kernel_rfl) (by kernel_rfl)
def G27 : Gam := G26.addX 95 c_IsScheme
theorem gs27 : GS Try.prog G27 := GS.addX gs26 (s_IsScheme (Γ0 := G24) mixed gs26 is95 rfl rfl rfl)
theorem is36 : Is Try.prog 36 (a_IsDoubt 69) := Is.mk' n_IsDoubt Try.func36 (by kernel_rfl) (by kernel_rfl)
def G28 : Gam := G27.addX 36 c_IsDoubt
theorem gs28 : GS Try.prog G28 := GS.addX gs27 (s_IsDoubt mixed gs27 is36 rfl)
theorem is87 : Is Try.prog 87 (a_isDrawnScheme 95 36) := Is.mk' n_isDrawnScheme Try.func87 (by kernel_rfl) (by kernel_rfl)
def G29 : Gam := G28.addX 87 c_isDrawnScheme
theorem gs29 : GS Try.prog G29 := GS.addX gs28 (s_isDrawnScheme mixed gs28 is87 rfl rfl)
theorem is100 : Is Try.prog 100 a_has := Is.mk' n_has Try.func100 (by kernel_rfl) (by kernel_rfl)
def G30 : Gam := G29.addX 100 c_has
theorem gs30 : GS Try.prog G30 := GS.addX gs29 (s_has mixed gs29 is100)
theorem is112 : Is Try.prog 112 (a_trueWord 100) := Is.mk' n_trueWord Try.func112 (by kernel_rfl) (by kernel_rfl)
def G31 : Gam := G30.addX 112 c_trueWord
theorem gs31 : GS Try.prog G31 := GS.addX gs30 (s_trueWord mixed gs30 is112 rfl)
theorem is132 : Is Try.prog 132 a_OnesCount64 := Is.mk' n_OnesCount64 Try.func132 (by kernel_rfl) (by kernel_rfl)
def G32 : Gam := G31.addX 132 c_OnesCount64
theorem gs32 : GS Try.prog G32 := GS.addX gs31 (s_OnesCount64 mixed gs31 is132)
theorem is124 : Is Try.prog 124 (a_OnesCount 131 132) := Is.mk' n_OnesCount Try.func124 (by kernel_rfl) (by kernel_rfl)
def G33 : Gam := G32.addX 124 c_OnesCount64
theorem gs33 : GS Try.prog G33 := GS.addX gs32 (s_OnesCount mixed gs32 is124 rfl)
theorem is111 : Is Try.prog 111 (a_apart 124) := Is.mk' n_apart Try.func111 (by kernel_rfl) (by kernel_rfl)
def G34 : Gam := G33.addX 111 c_l5Apart
theorem gs34 : GS Try.prog G34 := GS.addX gs33 (s_apart mixed gs33 is111 rfl)
theorem is110 : Is Try.prog 110 (a_near1 112 111) := Is.mk' n_near1 Try.func110 (by kernel_rfl) (by kernel_rfl)
def G35 : Gam := G34.addX 110 c_near1
theorem gs35 : GS Try.prog G35 := GS.addX gs34 (s_near1 mixed gs34 is110 rfl rfl)
theorem is109 : Is Try.prog 109 a_leastOf := Is.mk' n_leastOf Try.func109 (by kernel_rfl) (by kernel_rfl)
def G36 : Gam := G35.addX 109 (c_leastOf G35)
theorem gs36 : GS Try.prog G36 := GS.addX gs35 (s_leastOf mixed gs35 is109)
theorem is88 : Is Try.prog 88 (a_near 110 109) := Is.mk' n_near Try.func88 (by kernel_rfl) (by kernel_rfl)
def G37 : Gam := G36.addX 88 c_near
theorem gs37 : GS Try.prog G37 := GS.addX gs36 (s_near (Γ0 := G35) mixed gs36 is88 rfl rfl)
theorem is82 : Is Try.prog 82 a_power := Is.mk' n_power Try.func82 (by kernel_rfl) (by kernel_rfl)
def G38 : Gam := G37.addX 82 c_power
theorem gs38 : GS Try.prog G38 := GS.addX gs37 (s_power mixed gs37 is82)
theorem is89 : Is Try.prog 89 (a_ofThese 82) := Is.mk' n_ofThese Try.func89 (by kernel_rfl) (by kernel_rfl)
def G39 : Gam := G38.addX 89 c_ofThese
theorem gs39 : GS Try.prog G39 := GS.addX gs38 (s_ofThese mixed gs38 is89 rfl)
theorem is65 : Is Try.prog 65 a_fraction := Is.mk' n_fraction Try.func65 (by kernel_rfl) (by kernel_rfl)
def G40 : Gam := G39.addX 65 c_fraction
theorem gs40 : GS Try.prog G40 := GS.addX gs39 (s_fraction mixed gs39 is65)
theorem is42 : Is Try.prog 42 (a_ChanceDecoded 87 88 89 82 65) := Is.mk' n_ChanceDecoded Try.func42 (by kernel_rfl) (by kernel_rfl)
def G41 : Gam := G40.addX 42 c_ChanceDecoded
theorem gs41 : GS Try.prog G41 := GS.addX gs40 (s_ChanceDecoded mixed gs40 is42 rfl rfl rfl rfl rfl)
theorem is62 : Is Try.prog 62 (a_l2Asks 101 102) := Is.mk' n_l2Asks Try.func62 (by kernel_rfl) (by kernel_rfl)
def G42 : Gam := G41.addX 62 c_isQuestion
theorem gs42 : GS Try.prog G42 := GS.addX gs41 (s_l2Asks mixed gs41 is62 rfl rfl)
theorem is106 : Is Try.prog 106 (a_l5Scheme 62 101) := Is.mk' n_l5Scheme Try.func106 (by kernel_rfl) (by kernel_rfl)
def G43 : Gam := G42.addX 106 c_IsScheme
theorem gs43 : GS Try.prog G43 := GS.addX gs42 (s_l5Scheme mixed gs42 is106 rfl rfl)
theorem is83 : Is Try.prog 83 (a_l7Good 102) := Is.mk' n_l7Good Try.func83 (by kernel_rfl) (by kernel_rfl)
def G44 : Gam := G43.addX 83 c_IsDoubt
theorem gs44 : GS Try.prog G44 := GS.addX gs43 (s_l7Good mixed gs43 is83 rfl)
theorem is84 : Is Try.prog 84 (a_l7Scheme 106 83) := Is.mk' n_l7Scheme Try.func84 (by kernel_rfl) (by kernel_rfl)
def G45 : Gam := G44.addX 84 c_isDrawnScheme
theorem gs45 : GS Try.prog G45 := GS.addX gs44 (s_l7Scheme mixed gs44 is84 rfl rfl)
theorem is107 : Is Try.prog 107 a_l5True := Is.mk' n_l5True Try.func107 (by kernel_rfl) (by kernel_rfl)
def G46 : Gam := G45.addX 107 c_trueWord
theorem gs46 : GS Try.prog G46 := GS.addX gs45 (s_l5True mixed gs45 is107)
theorem is85 : Is Try.prog 85 (a_l5Words 107) := Is.mk' n_l5Words Try.func85 (by kernel_rfl) (by kernel_rfl)
def G47 : Gam := G46.addX 85 c_trueWords
theorem gs47 : GS Try.prog G47 := GS.addX gs46 (s_l5Words mixed gs46 is85 rfl)
theorem is86 : Is Try.prog 86 (a_l5Near 108) := Is.mk' n_l5Near Try.func86 (by kernel_rfl) (by kernel_rfl)
def G48 : Gam := G47.addX 86 c_l5Near
theorem gs48 : GS Try.prog G48 := GS.addX gs47 (s_l5Near mixed gs47 is86 rfl)
theorem is75 : Is Try.prog 75 a_l7Power := Is.mk' n_l7Power Try.func75 (by kernel_rfl) (by kernel_rfl)
def G49 : Gam := G48.addX 75 c_power
theorem gs49 : GS Try.prog G49 := GS.addX gs48 (s_l7Power mixed gs48 is75)
theorem is74 : Is Try.prog 74 (a_l7Parts 75) := Is.mk' n_l7Parts Try.func74 (by kernel_rfl) (by kernel_rfl)
def G50 : Gam := G49.addX 74 c_l7Parts
theorem gs50 : GS Try.prog G50 := GS.addX gs49 (s_l7Parts mixed gs49 is74 rfl)
theorem is63 : Is Try.prog 63 (a_l7Cut 60) := Is.mk' n_l7Cut Try.func63 (by kernel_rfl) (by kernel_rfl)
def G51 : Gam := G50.addX 63 c_fraction
theorem gs51 : GS Try.prog G51 := GS.addX gs50 (s_l7Cut mixed gs50 is63 rfl)
theorem is40 : Is Try.prog 40 (a_s_ChanceDecoded 84 85 86 74 75 63) := Is.mk' n_s_ChanceDecoded Try.func40 (by kernel_rfl) (by kernel_rfl)
def G52 : Gam := G51.addX 40 c_ChanceDecoded
theorem gs52 : GS Try.prog G52 := GS.addX gs51 (s_s_ChanceDecoded mixed gs51 is40 rfl rfl rfl rfl rfl rfl)
theorem is113 : Is Try.prog 113 (a_trueWords 112) := Is.mk' n_trueWords Try.func113 (by kernel_rfl) (by kernel_rfl)
def G53 : Gam := G52.addX 113 c_trueWords
theorem gs53 : GS Try.prog G53 := GS.addX gs52 (s_trueWords mixed gs52 is113 rfl)
theorem is91 : Is Try.prog 91 (a_gap 113 111) := Is.mk' n_gap Try.func91 (by kernel_rfl) (by kernel_rfl)
def G54 : Gam := G53.addX 91 c_gap
theorem gs54 : GS Try.prog G54 := GS.addX gs53 (s_gap mixed gs53 is91 rfl rfl)
theorem is104 : Is Try.prog 104 a_ways := Is.mk' n_ways Try.func104 (by kernel_rfl) (by kernel_rfl)
def G55 : Gam := G54.addX 104 c_ways
theorem gs55 : GS Try.prog G55 := GS.addX gs54 (s_ways mixed gs54 is104)
theorem is71 : Is Try.prog 71 (a_ofAny 104 89) := Is.mk' n_ofAny Try.func71 (by kernel_rfl) (by kernel_rfl)
def G56 : Gam := G55.addX 71 c_ofAny
theorem gs56 : GS Try.prog G56 := GS.addX gs55 (s_ofAny mixed gs55 is71 rfl rfl)
theorem is76 : Is Try.prog 76 (a_dWithin 71) := Is.mk' n_dWithin Try.func76 (by kernel_rfl) (by kernel_rfl)
def G57 : Gam := G56.addX 76 c_dWithin
theorem gs57 : GS Try.prog G57 := GS.addX gs56 (s_dWithin mixed gs56 is76 rfl)
theorem is70 : Is Try.prog 70 (a_dOf 82 65) := Is.mk' n_dOf Try.func70 (by kernel_rfl) (by kernel_rfl)
def G58 : Gam := G57.addX 70 c_dOf
theorem gs58 : GS Try.prog G58 := GS.addX gs57 (s_dOf mixed gs57 is70 rfl rfl)
theorem is51 : Is Try.prog 51 (a_ChanceSafe 87 91 76 70) := Is.mk' n_ChanceSafe Try.func51 (by kernel_rfl) (by kernel_rfl)
def G59 : Gam := G58.addX 51 c_ChanceSafe
theorem gs59 : GS Try.prog G59 := GS.addX gs58 (s_ChanceSafe mixed gs58 is51 rfl rfl rfl rfl)
theorem is90 : Is Try.prog 90 (a_l5Gap 108) := Is.mk' n_l5Gap Try.func90 (by kernel_rfl) (by kernel_rfl)
def G60 : Gam := G59.addX 90 c_l5Gap
theorem gs60 : GS Try.prog G60 := GS.addX gs59 (s_l5Gap mixed gs59 is90 rfl)
theorem is73 : Is Try.prog 73 a_l3Ways := Is.mk' n_l3Ways Try.func73 (by kernel_rfl) (by kernel_rfl)
def G61 : Gam := G60.addX 73 c_ways
theorem gs61 : GS Try.prog G61 := GS.addX gs60 (s_l3Ways mixed gs60 is73)
theorem is77 : Is Try.prog 77 (a_l7Within 73 74) := Is.mk' n_l7Within Try.func77 (by kernel_rfl) (by kernel_rfl)
def G62 : Gam := G61.addX 77 c_l7Within
theorem gs62 : GS Try.prog G62 := GS.addX gs61 (s_l7Within mixed gs61 is77 rfl rfl)
theorem is50 : Is Try.prog 50 (a_s_ChanceSafe 84 85 90 77 75 63) := Is.mk' n_s_ChanceSafe Try.func50 (by kernel_rfl) (by kernel_rfl)
def G63 : Gam := G62.addX 50 c_ChanceSafe
theorem gs63 : GS Try.prog G63 := GS.addX gs62 (s_s_ChanceSafe mixed gs62 is50 rfl rfl rfl rfl rfl rfl)
theorem is53 : Is Try.prog 53 (a_GapOf 95 91) := Is.mk' n_GapOf Try.func53 (by kernel_rfl) (by kernel_rfl)
def G64 : Gam := G63.addX 53 c_GapOf
theorem gs64 : GS Try.prog G64 := GS.addX gs63 (s_GapOf mixed gs63 is53 rfl rfl)
theorem is39 : Is Try.prog 39 a_vLessD := Is.mk' n_vLessD Try.func39 (by kernel_rfl) (by kernel_rfl)
def G65 : Gam := G64.addX 39 c_vLessD
theorem gs65 : GS Try.prog G65 := GS.addX gs64 (s_vLessD mixed gs64 is39)
theorem is10 : Is Try.prog 10 (a_x_FnDecoded 22 52 42 40 51 50 53 39) := Is.mk' n_x_FnDecoded Try.func10 (by kernel_rfl) (by kernel_rfl)
theorem law : Says Try.prog 10 c_x_FnDecoded := s_x_FnDecoded mixed gs65 is10 rfl rfl rfl rfl rfl rfl rfl rfl
theorem own : ownKnob Try.prog.godebug = none := by kernel_rfl
theorem laidOut : laidOutB Try.prog = true := by kernel_rfl
set_option maxRecDepth 100000 in
theorem lifted (os : Os) (started : os.Started) (H : Type) (enc : TypeId × Value → H) :
    ReturnsInHanded {} Try.checked os 10 .any (Rows.fnDecodedSpec.pre6 enc Try.prog Try.f10 Rows.fnDecodedRow.domain false) (Rows.fnDecodedSpec.post enc Try.prog Try.f10 false true false false) := by
  refine returnsInHanded_of_change (C := Try.checked) own started (by kernel_rfl) Try.func10
    (ChangeSpec.witness6 (enc := enc) (C := Try.checked) false ⟨#[], #[.slice none 0 0], []⟩ 8 (by kernel_rfl) (by kernel_rfl) (by kernel_rfl) (by kernel_rfl)) ?_
  intro W base args ds gs before hval0 hW _ _
  have hval : ∀ (j : Nat) t v, Try.f10.params[j]? = some t → args[j]? = some v → Value.okWide Try.prog W .any base t v := hval0
  obtain ⟨p, q, hA0, hV, _, _, _⟩ := id hW
  have hA : DataW.TrodAll enc Try.prog W 0 (fun _ => true) true Try.f10.params.toList args.toList ds p := hA0
  rw [Try.params10] at hA hval
  obtain ⟨v0, d0, rfl, rfl, h0⟩ := trodAll_one hA
  obtain ⟨pv0, l0, sl0, le0, hp0⟩ := open_bytesV Try.underlying39 Try.underlying5 (by kernel_rfl) (hval 0 39 v0 rfl rfl) h0
  have hcon : c_x_FnDecoded ([pv0].map .p) [] = some (.p (.bool true), [], []) := by simp [c_x_FnDecoded, pure', sl0, le0]
  refine (calls_true (args := [pv0]) (law _ _ _ _ _ hcon) rfl fun i hi => ?_).mono fun e W' ⟨he, hb⟩ => ⟨_, he, post_true hW rfl (fun l hl => ?_) laidOut (by kernel_rfl) (by kernel_rfl) Try.underlying4 hb⟩
  · match i, hi with
    | 0, _ => exact hp0
  · rw [Try.params10] at hl
    match l, hl with
    | [_], _ => rfl

theorem fnDecoded_holds : Rows.FnDecodedSaid :=
  OpenClaim.holds_of_wide 10 Try.f10 rfl rfl rfl rfl rfl rfl rfl ⟨rfl, rfl, rfl, rfl, rfl⟩ rfl rfl rfl rfl rfl (by kernel_rfl) Try.func10 (by kernel_rfl)
    (of_decide_eq_true (by kernel_rfl)) (by unfold Func.isWrapper; rw [if_neg (by decide +kernel)]; exact ⟨rfl, rfl⟩)
    (fun os started H enc _ => lifted os started H enc)
#print axioms fnDecoded_holds
end Go.Proofs.Ytmbljmolegalhaa
