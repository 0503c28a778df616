/- A part of the proof that stands in this folder: a small machine whose steps are shown to be the steps of the model, or walks of functions by it. No condition of its own. -/
import Derived.Test.YtmncbkkpchmjhaaB1MM
set_option linter.unusedVariables false
set_option linter.unusedSimpArgs false
namespace Go.Proofs.Ytmncbkkpchmjhaa.Pam
open Go
def ntR (both : Bool) : List Int → Nat := if both = true then ntT tabB else ntT tabO
def ndI (both : Bool) (c : List Int) : Int := (ntR both (pad3 c) : Int)
theorem okC_pad {c : List Int} (h : okC c = true) : pad3 c ∈ allT := by
  obtain ⟨⟨h1, h3⟩, h8, hs⟩ := okC_out h
  rw [mem_allT]
  have q := in8_get h8
  match c, h1, h3 with
  | [a], _, _ =>
    have h0 := q 0
    simp at h0 hs
    simp [pad3, inT]; omega
  | [a, b], _, _ =>
    have h0 := q 0
    have h1 := q 1
    simp at h0 h1 hs
    simp [pad3, inT]; omega
  | [a, b, d], _, _ =>
    have h0 := q 0
    have h1 := q 1
    have h2 := q 2
    simp at h0 h1 h2 hs
    simp [pad3, inT]; omega
theorem nt_bd (both : Bool) {t : List Int} (h : t ∈ allT) : ntR both t ≤ 9 := by
  cases both
  · have := ntO.top t h; simp only [ntR, Bool.false_eq_true, if_false]; omega
  · have := ntB.top t h; simp only [ntR, if_true]; omega
theorem eL_val {nt : List Int → Nat} : ∀ k, ∀ e ∈ eL nt k, 0 ≤ e.2 ∧ e.2 ≤ (k : Int)
  | 0, e, h => by
    simp only [eL, List.mem_map] at h
    obtain ⟨t, _, rfl⟩ := h
    simp
  | k + 1, e, h => by
    simp only [eL, List.mem_append, List.mem_map] at h
    rcases h with h | ⟨t, _, rfl⟩
    · have := eL_val k e h; omega
    · simp only; omega
theorem okE_nES (both : Bool) : okE (nES both) = true := by
  cases both
  · exact okE_ents (all3_eL _ _) fun e he => by have := eL_val 6 e he; omega
  · exact okE_ents (all3_eL _ _) fun e he => by have := eL_val 9 e he; omega
theorem ofE_nES (both : Bool) {c : List Int} (h : okC c = true) : ofE (nES both) c = ndI both c := by
  have hp := okC_pad h
  have hl := pad3_len (okC_out h).1.2
  cases both
  · simp only [nES, Bool.false_eq_true, if_false, ofE, look_ents hl (all3_eL _ _), lk_eL hp, if_pos (ntO.top _ hp), Option.map_some, ndI, ntR]
  · simp only [nES, if_true, ofE, look_ents hl (all3_eL _ _), lk_eL hp, if_pos (ntB.top _ hp), Option.map_some, ndI, ntR]
theorem tab_nd {c : List Int} (h : okC c = true) : (tabK (ntT tabB) c.length 9).getD (keyN c) 0 = ndI true c ∧ (tabK (ntT tabO) c.length 6).getD (keyN c) 0 = ndI false c := by
  have hp := okC_pad h
  obtain ⟨⟨h1, h3⟩, h8, hs⟩ := okC_out h
  rw [tabK_at rfl h3 h8 hs, tabK_at rfl h3 h8 hs, if_pos (ntB.top _ hp), if_pos (ntO.top _ hp)]
  exact ⟨rfl, rfl⟩
theorem ndI_bd (both : Bool) {c : List Int} (h : okC c = true) : 0 ≤ ndI both c ∧ ndI both c ≤ 9 := by
  have := nt_bd both (okC_pad h)
  simp only [ndI]; omega
theorem neederOf_both {Γ1 : Gam} {g : FuncId} (h : Γ1 g = c_bothWays) : c_neederOf Γ1 [.p (.fn g [] [])] [] = some (.ag [.p (.fn g [] []), .p (.mapv (nES true))], [], []) := by simp [c_neederOf, pure', h]
theorem neederOf_one {Γ1 : Gam} {g : FuncId} (h : Γ1 g = c_oneWay) : c_neederOf Γ1 [.p (.fn g [] [])] [] = some (.ag [.p (.fn g [] []), .p (.mapv (nES false))], [], []) := by simp [c_neederOf, pure', h, rules_apart]
theorem mem_spI {c : List Int} : ∀ {i : Nat} {s : List Int}, s.length = i → (∀ j, j < i → 0 ≤ s.getD j 0 ∧ s.getD j 0 ≤ c.getD j 0) → s ∈ spI c i
  | 0, s, hl, _ => by
    have : s = [] := List.length_eq_zero_iff.1 hl
    simp [spI, this]
  | i + 1, s, hl, h => by
    have h1 := take_one s i 0 (by omega)
    rw [List.take_of_length_le (by omega)] at h1
    have h2 : s.take i ∈ spI c i := mem_spI (by simp; omega) fun j hj => by
      have := h j (by omega)
      rw [List.getD_eq_getElem?_getD, List.getElem?_take, if_pos hj, ← List.getD_eq_getElem?_getD]; exact this
    have h3 := h i (by omega)
    simp only [spI, List.mem_flatMap, rowK, List.mem_map, List.mem_range]
    refine ⟨s.take i, h2, (s.getD i 0).toNat, by omega, ?_⟩
    have e : (((s.getD i 0).toNat : Nat) : Int) = s.getD i 0 := by omega
    rw [e]; exact h1.symm
theorem mem_spl {c s : List Int} (h : okSp c s = true) : s ∈ splL c := by
  obtain ⟨h1, h2⟩ := okSp_out h
  exact mem_spI h1 fun j _ => h2 j
/-- A split of counts that are not told leads to counts. -/
theorem sp_okC {c s : List Int} (hc : okC c = true) (hu : told c = false) (hs : s ∈ splL c) : okC (yesL c s) = true ∧ okC (noL c s) = true := by
  obtain ⟨⟨l1, l3⟩, h8, hsum⟩ := okC_out hc
  have hk := keyN_bd (p := c.length) rfl h8
  have hdg := dg_key (p := c.length) rfl l3 h8
  have hch := chk_of (okP_B l1 l3) hk.2 (by rw [hdg]; exact hsum) (by rw [hdg]; exact hu)
  rw [hdg] at hch
  have h2 := chk_inn hch hs
  have hsl := spl_len hs
  have hyl : (yesL c s).length = c.length := by rw [yesL_len, hsl]
  have hnl : (noL c s).length = c.length := by rw [noL_len, hsl]
  have hyb : yb true c s = yesL c s := rfl
  rw [hyb] at h2
  have e1 := pad_sum (c := yesL c s) (by omega) (mem_allT.1 h2.1)
  have e2 := pad_sum (c := noL c s) (by omega) (mem_allT.1 h2.2)
  constructor
  · simp only [okC, hyl, e1.1, dec_t e1.2, Bool.and_true]
    rw [dec_t (by omega), dec_t (by omega)]; rfl
  · simp only [okC, hnl, e2.1, dec_t e2.2, Bool.and_true]
    rw [dec_t (by omega), dec_t (by omega)]; rfl
def mxI (a b : Int) : Int := if a > b then a else b
theorem mxI_max (a b : Int) : (if b > a then b else a) = mxI a b := by
  simp only [mxI]
  by_cases h : b > a
  · rw [if_pos h, if_neg (by omega)]
  · rw [if_neg h]
    by_cases h2 : a > b
    · rw [if_pos h2]
    · rw [if_neg h2]; omega
def a_nSplit (f_nOf : FuncId) : AFn := ⟨3, 
  .seq (.reg [⟨some 3, none, .w (.box 2 (.t 0))⟩,
    ⟨some 6, none, .d (.mv (.c (.int .i64 0)))⟩])
  (.seq (.reg [⟨some 10, none, .d (.fa 0 (.t 3))⟩,
    ⟨some 11, none, .d (.load false 1 (.t 10))⟩,
    ⟨some 12, none, .d (.mv (.t 1))⟩,
    ⟨some 13, none, .d (.mv (.t 2))⟩,
    ⟨some 14, none, .d (.call (.t 11) [(.t 12), (.t 13)])⟩,
    ⟨some 9, none, .d (.mv (.t 14))⟩,
    ⟨some 15, none, .d (.extract (.t 9) 0)⟩,
    ⟨some 16, none, .d (.extract (.t 9) 1)⟩,
    ⟨some 7, none, .d (.mv (.t 15))⟩,
    ⟨some 8, none, .d (.mv (.t 16))⟩])
  (.seq (.dreg [] [([], ⟨some 17, none, .d (.load true 2 (.t 3))⟩),
    ([], ⟨some 18, none, .d (.mv (.t 7))⟩),
    ([], ⟨some 19, none, .d (.call (.f f_nOf) [(.t 17), (.t 18)])⟩),
    ([], ⟨some 20, none, .d (.load true 2 (.t 3))⟩),
    ([], ⟨some 21, none, .d (.mv (.t 8))⟩)] [⟨some 22, none, .d (.call (.f f_nOf) [(.t 20), (.t 21)])⟩,
    ⟨some 23, none, .d (.max2 (.t 19) (.t 22))⟩,
    ⟨some 24, none, .d (.bin .arith .add (.c (.int .i64 1)) (.t 23))⟩,
    ⟨some 6, none, .d (.mv (.t 24))⟩])
  (.ret))), [.tmp 6]⟩
def n_nSplit : Nat → Option Ann := fun _ => none
abbrev k_nSplit : List Nat := [0, 1, 2, 3, 6, 7, 8]
abbrev o_nSplit : List Nat := [3]
open Classical in
noncomputable def c_nSplit (Γ0 : Gam) : Con := pure' fun
  | [.p (.agg [.fn g [] [], .mapv es]), .p (.sl 1 c_), .p (.sl 1 s_)] =>
    if (Γ0 g = c_bothWays ∨ Γ0 g = c_oneWay) ∧ okE es = true ∧ isI c_ = true ∧ isI s_ = true ∧ 1 ≤ c_.length ∧ c_.length ≤ 3 ∧ s_.length = c_.length ∧ bd 1000 (ofI c_) = true ∧ bd 1000 (ofI s_) = true then
      some (.p (.int .i64 (1 + mxI (ofE es (ruleY Γ0 g (ofI c_) (ofI s_))) (ofE es (noL (ofI c_) (ofI s_))))), [])
    else none
  | _ => none
theorem s_nSplit {P : Program} (hm : P.follows .mixedOrders = true) {Γ : Gam} (hΓ : GS P Γ) {n : FuncId} {f_nOf : FuncId} (is : Is P n (a_nSplit f_nOf)) (h_nOf : Γ f_nOf = c_nOf)  : Says P n (c_nSplit Γ) := by
  refine Says.pure fun args r fs h => ?_
  split at h
  case h_2 => cases h
  rename_i g es c_ s_
  split at h
  case isFalse => cases h
  rename_i hc
  obtain ⟨hg, hok, hc_, hs_, l1, l3, hsl, hb1, hb2⟩ := hc
  obtain ⟨c, rfl⟩ := isI_out hc_
  obtain ⟨s, rfl⟩ := isI_out hs_
  rw [ints_len] at l1 l3
  rw [ints_len, ints_len] at hsl
  simp only [ofI_ints] at hb1 hb2
  simp only [ofI_ints, Option.some.injEq, Prod.mk.injEq] at h
  obtain ⟨rfl, rfl⟩ := h
  have hcl : c.length ≤ 1100000 := by omega
  have hyl : (yesL c s).length = c.length := by rw [yesL_len, hsl]
  have hnl : (noL c s).length = c.length := by rw [noL_len, hsl]
  have y1 : 1 ≤ (yesL c s).length := by omega
  have y3 : (yesL c s).length ≤ 3 := by omega
  have n1 : 1 ≤ (noL c s).length := by omega
  have n3 : (noL c s).length ≤ 3 := by omega
  have s1 : 1 ≤ s.length := by omega
  have s3 : s.length ≤ 3 := by omega
  have bn := ofE_bd hok n3
  have key : ∀ a b : Int, -1000 ≤ a → a ≤ 1000 → -1000 ≤ b → b ≤ 1000 → IntKind.i64.wrap (1 + (if b > a then b else a)) = 1 + mxI a b := fun a b h1 h2 h3 h4 => by
    rw [mxI_max]
    refine wrap64 ?_ ?_ <;> (simp only [mxI]; split <;> omega)
  rcases hg with hg | hg
  · rw [ruleY_both hg]
    have by' := ofE_bd hok y3
    have hw := key _ _ by'.1 by'.2 bn.1 bn.2
    refine is.go hm hΓ k_nSplit o_nSplit (by simp [a_nSplit]) ?_
    simp only [a_nSplit, h_nOf, c_nOf, hg, c_bothWays, hcl, l1, hsl, hb1, hb2, hok, y1, y3, n1, n3, hw, isI_ints, ofI_ints, ints_len, List.zipIdx_cons, List.zipIdx_nil, ↓SP, SQ, Gam.add, stepM, callC, argC, lendO, nmBy, nmC, likeL, likeB, plainOb, offs, exL, X, F, trP, trO, stepD, stepW, newA, SV.tr, SV.trL, fz, allP, Ob.tr, loadA, cellsA, SV.cells, binA, binI, eqOut, isSl, isPt, natOf, callee, snap, SV.refsL, SV.refs, thaw, fzAll, loA, hiA, elemOf, partsA, buildA, putCells, ↓reduceIte, reduceCtorEq, okCell, Nat.reduceAdd, Nat.reduceEqDiff, Nat.reduceSub, Nat.reduceMul, Nat.reduceLeDiff, Nat.reduceLT, Nat.reduceBEq, PV.scal, PV.scalL, SV.scal, SV.scalL, Ob.scal, PV.isCell, pure', resO]
    exact finA_val (by simp [retA, rvA, mkE_cons, mk_nil, mkO_cons, mkO_nil, loadA, SV.tr, SV.trL, nmF, rn_nil, rn_cons1, rn_cons2, plainOb, SV.refsL, SV.refs, Ob.refs, X, F, List.range_succ, mkO, setO_mk]) (by simp [SV.tr, SV.trL])
  · rw [ruleY_one hg]
    have bs := ofE_bd hok s3
    have hw := key _ _ bs.1 bs.2 bn.1 bn.2
    refine is.go hm hΓ k_nSplit o_nSplit (by simp [a_nSplit]) ?_
    simp only [a_nSplit, h_nOf, c_nOf, hg, c_oneWay, hcl, l1, l3, hsl, hb1, hb2, hok, s1, s3, n1, n3, hw, isI_ints, ofI_ints, ints_len, List.zipIdx_cons, List.zipIdx_nil, ↓SP, SQ, Gam.add, stepM, callC, argC, lendO, nmBy, nmC, likeL, likeB, plainOb, offs, exL, X, F, trP, trO, stepD, stepW, newA, SV.tr, SV.trL, fz, allP, Ob.tr, loadA, cellsA, SV.cells, binA, binI, eqOut, isSl, isPt, natOf, callee, snap, SV.refsL, SV.refs, thaw, fzAll, loA, hiA, elemOf, partsA, buildA, putCells, ↓reduceIte, reduceCtorEq, okCell, Nat.reduceAdd, Nat.reduceEqDiff, Nat.reduceSub, Nat.reduceMul, Nat.reduceLeDiff, Nat.reduceLT, Nat.reduceBEq, PV.scal, PV.scalL, SV.scal, SV.scalL, Ob.scal, PV.isCell, pure', resO]
    exact finA_val (by simp [retA, rvA, mkE_cons, mk_nil, mkO_cons, mkO_nil, loadA, SV.tr, SV.trL, nmF, rn_nil, rn_cons1, rn_cons2, plainOb, SV.refsL, SV.refs, Ob.refs, X, F, List.range_succ, mkO, setO_mk]) (by simp [SV.tr, SV.trL])
/-- Whether a split leads back. -/
def backB (c s : List Int) : Bool := decide (yesL c s = c) || decide (noL c s = c)
def snV (c s : List Int) : Int := 1 + mxI (ndI true (yesL c s)) (ndI true (noL c s))
def a_l4SplitNeed (f_l4Yes : FuncId) (f_l4No : FuncId) (f_eqIntS : FuncId) (f_l4Key : FuncId) (f_l1Most : FuncId) : AFn := ⟨3, 
  .seq (.reg [⟨some 6, none, .d (.mv (.c (.int .i64 0)))⟩])
  (.seq (.reg [⟨some 9, none, .d (.mv (.t 0))⟩,
    ⟨some 10, none, .d (.mv (.t 1))⟩,
    ⟨some 11, none, .d (.call (.f f_l4Yes) [(.t 9), (.t 10)])⟩,
    ⟨some 12, none, .d (.mv (.t 0))⟩,
    ⟨some 13, none, .d (.mv (.t 1))⟩,
    ⟨some 14, none, .d (.call (.f f_l4No) [(.t 12), (.t 13)])⟩,
    ⟨some 7, none, .d (.mv (.t 11))⟩,
    ⟨some 8, none, .d (.mv (.t 14))⟩])
  (.seq (.seq (.reg [⟨some 15, none, .d (.mv (.t 7))⟩,
    ⟨some 16, none, .d (.mv (.t 0))⟩,
    ⟨some 17, none, .d (.call (.f f_eqIntS) [(.t 15), (.t 16)])⟩,
    ⟨some 18, none, .d (.mv (.t 17))⟩,
    ⟨some 19, some (18, false), .d (.mv (.t 8))⟩,
    ⟨some 20, some (18, false), .d (.mv (.t 0))⟩,
    ⟨some 21, some (18, false), .d (.call (.f f_eqIntS) [(.t 19), (.t 20)])⟩,
    ⟨some 22, none, .d (.pick (.t 18) (.c (.bool true)) (.t 21))⟩])
  (.cond (.t 22) (.seq (.reg [⟨some 6, none, .d (.mv (.c (.int .i64 (-1))))⟩])
   (.ret)) (.skip)))
  (.seq (.dreg [] [([], ⟨some 23, none, .d (.mv (.t 2))⟩),
    ([], ⟨some 24, none, .d (.mv (.t 7))⟩),
    ([], ⟨some 25, none, .d (.call (.f f_l4Key) [(.t 24)])⟩),
    ([], ⟨some 26, none, .d (.ia 1 (.t 23) (.t 25))⟩),
    ([], ⟨some 27, none, .d (.load false 1 (.t 26))⟩),
    ([], ⟨some 28, none, .d (.mv (.t 2))⟩),
    ([], ⟨some 29, none, .d (.mv (.t 8))⟩),
    ([], ⟨some 30, none, .d (.call (.f f_l4Key) [(.t 29)])⟩),
    ([], ⟨some 31, none, .d (.ia 1 (.t 28) (.t 30))⟩),
    ([], ⟨some 32, none, .d (.load false 1 (.t 31))⟩)] [⟨some 33, none, .d (.call (.f f_l1Most) [(.t 27), (.t 32)])⟩,
    ⟨some 34, none, .d (.bin .arith .add (.c (.int .i64 1)) (.t 33))⟩,
    ⟨some 6, none, .d (.mv (.t 34))⟩])
  (.ret)))), [.tmp 6]⟩
def n_l4SplitNeed : Nat → Option Ann := fun _ => none
abbrev k_l4SplitNeed : List Nat := [0, 1, 2, 6, 7, 8, 22]
abbrev o_l4SplitNeed : List Nat := []
/-- The need of a split by a table. -/
def c_l4SplitNeed : Con := pure' fun
  | [.p (.sl 1 c_), .p (.sl 1 s_), .p (.sl 1 tab_)] => if isI c_ = true ∧ isI s_ = true ∧ isI tab_ = true ∧ (isOKw (ofI c_) = true ∧ (ofI s_) ∈ splL (ofI c_) ∧ (ofI tab_).length = 9 ^ (ofI c_).length ∧ bd 1000 (ofI tab_) = true) then some (.p (.int .i64 (if backB (ofI c_) (ofI s_) = true then -1 else 1 + mxI ((ofI tab_).getD (keyN (yesL (ofI c_) (ofI s_))) 0) ((ofI tab_).getD (keyN (noL (ofI c_) (ofI s_))) 0))), []) else none
  | _ => none
theorem s_l4SplitNeed {P : Program} (hm : P.follows .mixedOrders = true) {Γ : Gam} (hΓ : GS P Γ) {n : FuncId} {f_l4Yes : FuncId} {f_l4No : FuncId} {f_eqIntS : FuncId} {f_l4Key : FuncId} {f_l1Most : FuncId} (is : Is P n (a_l4SplitNeed f_l4Yes f_l4No f_eqIntS f_l4Key f_l1Most)) (h_l4Yes : Γ f_l4Yes = c_l4Yes) (h_l4No : Γ f_l4No = c_l4No) (h_eqIntS : Γ f_eqIntS = c_eqIntS) (h_l4Key : Γ f_l4Key = c_l4Key) (h_l1Most : Γ f_l1Most = c_l1Most)  : Says P n c_l4SplitNeed := by
  refine Says.pure fun args r fs h => ?_
  split at h
  case h_2 => cases h
  rename_i c_ s_ tab_
  split at h
  case isFalse => cases h
  rename_i hc
  obtain ⟨hc_, hc⟩ := hc
  obtain ⟨c, rfl⟩ := isI_out hc_
  obtain ⟨hs_, hc⟩ := hc
  obtain ⟨s, rfl⟩ := isI_out hs_
  obtain ⟨htab_, hc⟩ := hc
  obtain ⟨tab, rfl⟩ := isI_out htab_
  simp only [ofI_ints, ofBo_bools, ofAs_asks, Option.some.injEq, Prod.mk.injEq] at h hc
  obtain ⟨rfl, rfl⟩ := h
  obtain ⟨hok, hsm, htl, hbt⟩ := hc
  obtain ⟨h1l, hl3, h8, hin⟩ := isOKw_out hok
  have hp := pow9 hl3
  have hcl : c.length ≤ 1100000 := by omega
  have hslen := spl_len hsm
  have hs8 := spl_in8 h8 hsm
  have hb3 : bd 1000 c = true := bd_in8 h8 (by omega)
  have hb4 : bd 10000 c = true := bd_in8 h8 (by omega)
  have hbs3 : bd 1000 s = true := bd_in8 hs8 (by omega)
  have hbs4 : bd 10000 s = true := bd_in8 hs8 (by omega)
  obtain ⟨hy8, hn8⟩ := hin s hsm
  have hyl : (yesL c s).length = c.length := by rw [yesL_len, hslen]
  have hnl : (noL c s).length = c.length := by rw [noL_len, hslen]
  have hyl3 : (yesL c s).length ≤ 3 := by omega
  have hnl3 : (noL c s).length ≤ 3 := by omega
  have hylb : (yesL c s).length ≤ 1100000 := by omega
  have hnlb : (noL c s).length ≤ 1100000 := by omega
  obtain ⟨y0, y1⟩ := keyN_bd (p := c.length) hyl hy8
  obtain ⟨n0, n1⟩ := keyN_bd (p := c.length) hnl hn8
  have hgy := ints_get (l := tab) (i := keyN (yesL c s)) (by omega)
  have hgn := ints_get (l := tab) (i := keyN (noL c s)) (by omega)
  have ey : (keyL (yesL c s)).toNat = keyN (yesL c s) := rfl
  have en : (keyL (noL c s)).toNat = keyN (noL c s) := rfl
  have b1 := bd_get hbt (by omega) (keyN (yesL c s))
  have b2 := bd_get hbt (by omega) (keyN (noL c s))
  have hmx : ∀ a b : Int, (if a > b then a else b) = mxI a b := fun _ _ => rfl
  have hw : IntKind.i64.wrap (1 + mxI (tab.getD (keyN (yesL c s)) 0) (tab.getD (keyN (noL c s)) 0)) = 1 + mxI (tab.getD (keyN (yesL c s)) 0) (tab.getD (keyN (noL c s)) 0) := by
    refine wrap64 ?_ ?_ <;> (simp only [mxI]; split <;> omega)
  by_cases e1 : yesL c s = c
  · have hd := dec_t e1
    refine is.go hm hΓ k_l4SplitNeed o_l4SplitNeed (by simp [a_l4SplitNeed]) ?_
    simp only [a_l4SplitNeed, h_l4Yes, c_l4Yes, h_l4No, c_l4No, h_eqIntS, c_eqIntS, h_l4Key, c_l4Key, h_l1Most, c_l1Most, hcl, h1l, hslen, hb3, hb4, hbs3, hbs4, hylb, hnlb, hd, slI_sl, isI_ints, ofI_ints, ints_len, List.zipIdx_cons, List.zipIdx_nil, ↓SP, SQ, Gam.add, stepM, callC, argC, lendO, nmBy, nmC, likeL, likeB, plainOb, offs, exL, X, F, trP, trO, stepD, stepW, newA, SV.tr, SV.trL, fz, allP, Ob.tr, loadA, cellsA, SV.cells, binA, binI, eqOut, isSl, isPt, natOf, callee, snap, SV.refsL, SV.refs, thaw, fzAll, loA, hiA, elemOf, partsA, buildA, putCells, ↓reduceIte, reduceCtorEq, okCell, Nat.reduceAdd, Nat.reduceEqDiff, Nat.reduceSub, Nat.reduceMul, Nat.reduceLeDiff, Nat.reduceLT, Nat.reduceBEq, PV.scal, PV.scalL, SV.scal, SV.scalL, Ob.scal, PV.isCell, pure', resO]
    exact finA_val (by simp [backB, hd, retA, rvA, mkE_cons, mk_nil, mkO_cons, mkO_nil, loadA, SV.tr, SV.trL, nmF, rn_nil, rn_cons1, rn_cons2, plainOb, SV.refsL, SV.refs, Ob.refs, X, F, List.range_succ, mkO, setO_mk]) (by simp [SV.tr, SV.trL])
  · have hd := dec_f e1
    by_cases e2 : noL c s = c
    · have hd2 := dec_t e2
      refine is.go hm hΓ k_l4SplitNeed o_l4SplitNeed (by simp [a_l4SplitNeed]) ?_
      simp only [a_l4SplitNeed, h_l4Yes, c_l4Yes, h_l4No, c_l4No, h_eqIntS, c_eqIntS, h_l4Key, c_l4Key, h_l1Most, c_l1Most, hcl, h1l, hslen, hb3, hb4, hbs3, hbs4, hylb, hnlb, hd, hd2, slI_sl, isI_ints, ofI_ints, ints_len, List.zipIdx_cons, List.zipIdx_nil, ↓SP, SQ, Gam.add, stepM, callC, argC, lendO, nmBy, nmC, likeL, likeB, plainOb, offs, exL, X, F, trP, trO, stepD, stepW, newA, SV.tr, SV.trL, fz, allP, Ob.tr, loadA, cellsA, SV.cells, binA, binI, eqOut, isSl, isPt, natOf, callee, snap, SV.refsL, SV.refs, thaw, fzAll, loA, hiA, elemOf, partsA, buildA, putCells, ↓reduceIte, reduceCtorEq, okCell, Nat.reduceAdd, Nat.reduceEqDiff, Nat.reduceSub, Nat.reduceMul, Nat.reduceLeDiff, Nat.reduceLT, Nat.reduceBEq, PV.scal, PV.scalL, SV.scal, SV.scalL, Ob.scal, PV.isCell, pure', resO]
      exact finA_val (by simp [backB, hd, hd2, retA, rvA, mkE_cons, mk_nil, mkO_cons, mkO_nil, loadA, SV.tr, SV.trL, nmF, rn_nil, rn_cons1, rn_cons2, plainOb, SV.refsL, SV.refs, Ob.refs, X, F, List.range_succ, mkO, setO_mk]) (by simp [SV.tr, SV.trL])
    · have hd2 := dec_f e2
      refine is.go hm hΓ k_l4SplitNeed o_l4SplitNeed (by simp [a_l4SplitNeed]) ?_
      simp only [a_l4SplitNeed, h_l4Yes, c_l4Yes, h_l4No, c_l4No, h_eqIntS, c_eqIntS, h_l4Key, c_l4Key, h_l1Most, c_l1Most, hcl, h1l, hslen, hb3, hb4, hbs3, hbs4, hylb, hnlb, hyl3, hnl3, hy8, hn8, y0, n0, ey, en, hgy, hgn, hd, hd2, hmx, hw, slI_sl, isI_ints, ofI_ints, ints_len, List.zipIdx_cons, List.zipIdx_nil, ↓SP, SQ, Gam.add, stepM, callC, argC, lendO, nmBy, nmC, likeL, likeB, plainOb, offs, exL, X, F, trP, trO, stepD, stepW, newA, SV.tr, SV.trL, fz, allP, Ob.tr, loadA, cellsA, SV.cells, binA, binI, eqOut, isSl, isPt, natOf, callee, snap, SV.refsL, SV.refs, thaw, fzAll, loA, hiA, elemOf, partsA, buildA, putCells, ↓reduceIte, reduceCtorEq, okCell, Nat.reduceAdd, Nat.reduceEqDiff, Nat.reduceSub, Nat.reduceMul, Nat.reduceLeDiff, Nat.reduceLT, Nat.reduceBEq, PV.scal, PV.scalL, SV.scal, SV.scalL, Ob.scal, PV.isCell, pure', resO]
      exact finA_val (by simp [backB, hd, hd2, retA, rvA, mkE_cons, mk_nil, mkO_cons, mkO_nil, loadA, SV.tr, SV.trL, nmF, rn_nil, rn_cons1, rn_cons2, plainOb, SV.refsL, SV.refs, Ob.refs, X, F, List.range_succ, mkO, setO_mk]) (by simp [SV.tr, SV.trL])
theorem okw_of {c : List Int} (hc : okC c = true) (hu : told c = false) : isOKw c = true := by
  obtain ⟨⟨l1, l3⟩, h8, hsum⟩ := okC_out hc
  have hk := keyN_bd (p := c.length) rfl h8
  have hdg := dg_key (p := c.length) rfl l3 h8
  have := open_okw l1 l3 hk.2 (by rw [hdg]; exact hsum) (by rw [hdg]; exact hu)
  rwa [hdg] at this
theorem tabK_bd {nt : List Int → Nat} {p k : Nat} (hk : k ≤ 1000) : bd 1000 (tabK nt p k) = true := by
  refine bd_of fun j hj => ?_
  rw [tabK_len] at hj
  rw [tabK_get hj, valK]
  split
  · rename_i h; omega
  · omega
theorem tab_yn {c s : List Int} (hc : okC c = true) (hu : told c = false) (hs : s ∈ splL c) : (tabK (ntT tabB) c.length 9).getD (keyN (yesL c s)) 0 = ndI true (yesL c s) ∧ (tabK (ntT tabB) c.length 9).getD (keyN (noL c s)) 0 = ndI true (noL c s) := by
  obtain ⟨h1, h2⟩ := sp_okC hc hu hs
  have hsl := spl_len hs
  have e1 := (tab_nd h1).1
  have e2 := (tab_nd h2).1
  rw [yesL_len, hsl] at e1
  rw [noL_len, hsl] at e2
  exact ⟨e1, e2⟩
def lsOf (xs : List PV) : List (List Int) := xs.map fun
  | .sl _ ys => ofI ys
  | _ => []
theorem lsOf_sls (L : List (List Int)) : lsOf (sls L) = L := by
  simp only [lsOf, sls, List.map_map]
  have : ((fun x : PV => match x with | .sl _ ys => ofI ys | _ => []) ∘ fun l : List Int => PV.sl 1 (ints l)) = id := by funext l; simp [ofI_ints]
  rw [this, List.map_id]
theorem sls_set (L : List (List Int)) (i : Nat) (l : List Int) : (sls L).set i (.sl 1 (ints l)) = sls (L.set i l) := by simp [sls, List.map_set]
theorem putPV_sls (L : List (List Int)) (i n : Nat) (h : i + n ≤ L.length) : putPV (sls L) i (List.replicate n .nilsl) = sls (L.take i) ++ List.replicate n .nilsl ++ sls (L.drop (i + n)) := by
  rw [putPV_eq _ _ _ (by simp [sls_len]; omega)]
  simp [sls, List.map_take, List.map_drop]
def a_DelS (f_IndexFuncS : FuncId) : AFn := ⟨2, 
  .seq (.reg [⟨some 4, none, .d (.mv (.c (.nilsl)))⟩])
  (.seq (.reg [⟨some 8, none, .d (.mv (.t 0))⟩,
    ⟨some 9, none, .d (.mv (.t 1))⟩,
    ⟨some 10, none, .d (.call (.f f_IndexFuncS) [(.t 8), (.t 9)])⟩,
    ⟨some 5, none, .d (.mv (.t 10))⟩])
  (.seq (.seq (.reg [⟨some 11, none, .d (.mv (.t 5))⟩,
    ⟨some 12, none, .d (.bin .arith .eql (.t 11) (.c (.int .i64 (-1))))⟩])
  (.cond (.t 12) (.seq (.reg [⟨some 13, none, .d (.mv (.t 0))⟩,
     ⟨some 4, none, .d (.mv (.t 13))⟩])
   (.ret)) (.skip)))
  (.seq (.seq (.reg [⟨some 14, none, .d (.mv (.t 5))⟩,
    ⟨some 15, none, .d (.bin .arith .add (.t 14) (.c (.int .i64 1)))⟩,
    ⟨some 6, none, .d (.mv (.t 15))⟩])
  (.block 0 (.loop (.seq (.seq (.reg [⟨some 16, none, .d (.mv (.t 6))⟩,
      ⟨some 17, none, .d (.mv (.t 0))⟩,
      ⟨some 18, none, .d (.len (.t 17))⟩,
      ⟨some 19, none, .d (.bin .arith .lss (.t 16) (.t 18))⟩])
    (.cond (.t 19) (.skip) (.exit 0)))
    (.seq (.block 1 (.seq (.reg [⟨some 22, none, .d (.mv (.t 0))⟩,
       ⟨some 23, none, .d (.mv (.t 6))⟩,
       ⟨some 24, none, .d (.ia 1 (.t 22) (.t 23))⟩,
       ⟨some 25, none, .d (.load false 1 (.t 24))⟩,
       ⟨some 7, none, .d (.mv (.t 25))⟩])
     (.seq (.reg [⟨some 26, none, .d (.mv (.t 1))⟩,
       ⟨some 27, none, .d (.mv (.t 7))⟩,
       ⟨some 28, none, .d (.call (.t 26) [(.t 27)])⟩,
       ⟨some 29, none, .d (.not (.t 28))⟩])
     (.cond (.t 29) (.seq (.reg [⟨some 30, none, .d (.mv (.t 0))⟩,
        ⟨some 31, none, .d (.mv (.t 5))⟩,
        ⟨some 32, none, .d (.mv (.t 7))⟩,
        ⟨some 33, none, .d (.ia 1 (.t 30) (.t 31))⟩,
        ⟨none, none, .w (.store 1 (.t 33) (.t 32))⟩])
      (.reg [⟨some 34, none, .d (.mv (.t 5))⟩,
        ⟨some 35, none, .d (.bin .arith .add (.t 34) (.c (.int .i64 1)))⟩,
        ⟨some 5, none, .d (.mv (.t 35))⟩])) (.skip)))))
    (.reg [⟨some 20, none, .d (.mv (.t 6))⟩,
      ⟨some 21, none, .d (.bin .arith .add (.t 20) (.c (.int .i64 1)))⟩,
      ⟨some 6, none, .d (.mv (.t 21))⟩]))))))
  (.seq (.reg [⟨some 36, none, .d (.mv (.t 0))⟩,
    ⟨some 37, none, .d (.mv (.t 5))⟩,
    ⟨some 38, none, .d (.slc 1 (.t 36) (some (.t 37)) none)⟩,
    ⟨none, none, .w (.clear 1 (.nilsl) (.t 38))⟩])
  (.seq (.reg [⟨some 39, none, .d (.mv (.t 0))⟩,
    ⟨some 40, none, .d (.mv (.t 5))⟩,
    ⟨some 41, none, .d (.slc 1 (.t 39) none (some (.t 40)))⟩,
    ⟨some 4, none, .d (.mv (.t 41))⟩])
  (.ret)))))), [.tmp 4]⟩
def n_DelS : Nat → Option Ann := fun _ => none
abbrev k_DelS : List Nat := [0, 1, 4, 5, 6, 7, 12, 19, 29]
abbrev o_DelS : List Nat := []
def c_DelS (Γ0 Γ1 : Gam) : Con
  | [.ar 1000000, .p (.fn g a b)], [.arr 1 xs] => if isS xs = true ∧ xs.length ≤ 1100000 then (match askF Γ0 g a b xs, askF Γ1 g a b xs with
      | some bs, some bs' => if bs = bs' ∧ bs.any id = true then some (.sub 1000000 0 (kpI [] (lsOf xs) bs xs.length).length, [.arr 1 (sls (kpI [] (lsOf xs) bs xs.length) ++ List.replicate (xs.length - (kpI [] (lsOf xs) bs xs.length).length) .nilsl)], []) else none
      | _, _ => none) else none
  | _, _ => none
theorem s_DelS {P : Program} (hm : P.follows .mixedOrders = true) {Γ : Gam} (hΓ : GS P Γ) {n : FuncId} {f_IndexFuncS : FuncId} (is : Is P n (a_DelS f_IndexFuncS)) {Γ0 : Gam} (h_IndexFuncS : Γ f_IndexFuncS = c_IndexFuncS Γ0) : Says P n (c_DelS Γ0 Γ) := by
  intro args ext r ext' fs h
  unfold c_DelS at h
  split at h
  case h_2 => cases h
  rename_i g a b xs
  split at h
  case isFalse => cases h
  rename_i hc
  obtain ⟨hx, hn⟩ := hc
  obtain ⟨L, rfl⟩ := isS_out hx
  rw [sls_len] at hn
  split at h
  case h_2 => cases h
  rename_i bs bs' hbs hbs'
  split at h
  case isFalse => cases h
  rename_i hc2
  obtain ⟨rfl, hany⟩ := hc2
  simp only [lsOf_sls, Option.some.injEq, Prod.mk.injEq, sls_len] at h
  obtain ⟨rfl, rfl, rfl⟩ := h
  have hbl := askF_len hbs
  rw [sls_len] at hbl
  obtain ⟨i0, hi0, hf, hpre, hat⟩ := firstT_out hany
  rw [hbl] at hi0
  have hm1 : ((i0 : Int) == -1) = false := beq_eq_false_iff_ne.2 (by omega)
  have hw0 := wrap_one (i := i0) (by omega)
  have hk0 : kpI [] L bs (i0 + 1) = L.take i0 := by rw [kpI_no hat, kpI_all (by omega) hpre]
  have hk0l : (kpI [] L bs (i0 + 1)).length = i0 := by rw [hk0]; simp; omega
  have hstart : kpI [] L bs (i0 + 1) ++ L.drop (kpI [] L bs (i0 + 1)).length = L := by rw [hk0l, hk0, List.take_append_drop]
  refine is.goX hm hΓ k_DelS (1000000 :: o_DelS) (by simp [a_DelS]) (by simp) ?_
  simp only [a_DelS, h_IndexFuncS, c_IndexFuncS, hbs, hf, hm1, hw0, hx, hn, sls_len, List.zipIdx_cons, List.zipIdx_nil, ↓SP, SQ, Gam.add, stepM, callC, argC, lendO, nmBy, nmC, likeL, likeB, plainOb, offs, exL, X, F, trP, trO, stepD, stepW, newA, SV.tr, SV.trL, fz, allP, Ob.tr, loadA, cellsA, SV.cells, binA, binI, eqOut, isSl, isPt, natOf, callee, snap, SV.refsL, SV.refs, thaw, fzAll, loA, hiA, elemOf, partsA, buildA, putCells, ↓reduceIte, reduceCtorEq, okCell, Nat.reduceAdd, Nat.reduceEqDiff, Nat.reduceSub, Nat.reduceMul, Nat.reduceLeDiff, Nat.reduceLT, Nat.reduceBEq, PV.scal, PV.scalL, SV.scal, SV.scalL, Ob.scal, PV.isCell, pure', resO]
  refine loop_at (fun st : J => mkEnv [(0, .ar 1000000), (1, .p (.fn g a b)), (4, .p .nilsl), (5, si (kpI [] L bs st.i).length), (6, si st.i), (7, st.a), (12, sb false), (19, st.b), (29, st.c)]) (fun st => mkO [(1000000, some (.arr 1 (sls (kpI [] L bs st.i ++ L.drop (kpI [] L bs st.i).length))))]) (fun st => st.i ≤ L.length) (fun st => L.length - st.i) ⟨i0 + 1, .junk, .junk, .junk, .junk, .junk, .junk, .junk, .junk, .junk, .junk, .junk, .junk, none, none, none⟩ (by simp only; omega) (by simp only [hk0l]; try rfl) (by simp only [hstart]; try rfl) ?_
  rintro ⟨j, c1, c2, c3, c4, c5, c6, c7, c8, c9, c10, c11, c12, o1, o2, o3⟩ hj R hR hN
  simp only at hj
  have hmm := kpI_len [] L bs j
  have hkl := kd_len (d := []) (bs := bs) hj
  by_cases h : j < L.length
  · have h1 : (j : Int) < L.length := by omega
    have hw := wrap_one (i := j) (by omega)
    have hkg := kd_get (d := []) (bs := bs) h
    have hgL := sls_get h
    have hg := sls_get (L := kpI [] L bs j ++ L.drop (kpI [] L bs j).length) (i := j) (by rw [hkl]; exact h)
    rw [hkg] at hg
    obtain ⟨l, hl⟩ : ∃ l, L.getD j [] = l := ⟨_, rfl⟩
    rw [hl] at hgL hg
    have q3 : (kpI [] L bs j).length < L.length := by omega
    have hq := askF_get hbs' hgL
    have hwm := wrap_one (i := (kpI [] L bs j).length) (by omega)
    cases hb : bs.getD j false with
    | false =>
      rw [hb] at hq
      have hset : (kpI [] L bs j ++ L.drop (kpI [] L bs j).length).set (kpI [] L bs j).length l = kpI [] L bs (j + 1) ++ L.drop (kpI [] L bs (j + 1)).length := by
        rw [← hl]; exact kd_set h hb
      have hlen1 : (kpI [] L bs (j + 1)).length = (kpI [] L bs j).length + 1 := by rw [kpI_yes hb]; simp
      obtain ⟨e1, he1⟩ : ∃ e, (sls (kpI [] L bs j ++ L.drop (kpI [] L bs j).length))[(kpI [] L bs j).length]? = some e := ⟨_, List.getElem?_eq_getElem (by rw [sls_len, hkl]; exact q3)⟩
      simp only [h, h1, hw, hg, hkl, q3, he1, sls_set, hset, hwm, ← hlen1, call_ps, refs_ps, hq, sls_len, Nat.zero_add, ↓SP, SQ, Gam.add, stepM, callC, argC, lendO, nmBy, nmC, likeL, likeB, plainOb, offs, exL, X, F, trP, trO, stepD, stepW, newA, SV.tr, SV.trL, fz, allP, Ob.tr, loadA, cellsA, SV.cells, binA, binI, eqOut, isSl, isPt, natOf, callee, snap, SV.refsL, SV.refs, thaw, fzAll, loA, hiA, elemOf, partsA, buildA, putCells, ↓reduceIte, reduceCtorEq, okCell, Nat.reduceAdd, Nat.reduceEqDiff, Nat.reduceSub, Nat.reduceMul, Nat.reduceLeDiff, Nat.reduceLT, Nat.reduceBEq, PV.scal, PV.scalL, SV.scal, SV.scalL, Ob.scal, PV.isCell, pure', resO]
      exact hN ⟨j + 1, _, _, _, .junk, .junk, .junk, .junk, .junk, .junk, .junk, .junk, .junk, none, none, none⟩ _ _ (by simp only; omega) (by simp only; omega) rfl rfl
    | true =>
      rw [hb] at hq
      have hsame := kpI_no (d := []) (L := L) hb
      simp only [h, h1, hw, hg, hkl, call_ps, refs_ps, hq, sls_len, Nat.zero_add, ↓SP, SQ, Gam.add, stepM, callC, argC, lendO, nmBy, nmC, likeL, likeB, plainOb, offs, exL, X, F, trP, trO, stepD, stepW, newA, SV.tr, SV.trL, fz, allP, Ob.tr, loadA, cellsA, SV.cells, binA, binI, eqOut, isSl, isPt, natOf, callee, snap, SV.refsL, SV.refs, thaw, fzAll, loA, hiA, elemOf, partsA, buildA, putCells, ↓reduceIte, reduceCtorEq, okCell, Nat.reduceAdd, Nat.reduceEqDiff, Nat.reduceSub, Nat.reduceMul, Nat.reduceLeDiff, Nat.reduceLT, Nat.reduceBEq, PV.scal, PV.scalL, SV.scal, SV.scalL, Ob.scal, PV.isCell, pure', resO]
      exact hN ⟨j + 1, _, _, _, .junk, .junk, .junk, .junk, .junk, .junk, .junk, .junk, .junk, none, none, none⟩ _ _ (by simp only; omega) (by simp only; omega) (by rw [hsame]) (by rw [hsame])
  · have he : j = L.length := by omega
    have h1 : ¬ (j : Int) < L.length := by omega
    subst he
    have hcl : putPV (sls (kpI [] L bs L.length ++ L.drop (kpI [] L bs L.length).length)) (kpI [] L bs L.length).length (List.replicate (L.length - (kpI [] L bs L.length).length) .nilsl) = sls (kpI [] L bs L.length) ++ List.replicate (L.length - (kpI [] L bs L.length).length) .nilsl := by
      rw [putPV_sls _ _ _ (by rw [hkl]; omega)]
      have e1 : (kpI [] L bs L.length).length + (L.length - (kpI [] L bs L.length).length) = L.length := by omega
      rw [e1, List.take_left, List.drop_of_length_le (by rw [hkl]; exact Nat.le_refl _)]
      simp [sls]
    have hdl : (sls (kpI [] L bs L.length) ++ List.replicate (L.length - (kpI [] L bs L.length).length) PV.nilsl).length = L.length := by simp [sls_len]; omega
    simp only [h1, hkl, sls_len, ↓SP, SQ, Gam.add, stepM, callC, argC, lendO, nmBy, nmC, likeL, likeB, plainOb, offs, exL, X, F, trP, trO, stepD, stepW, newA, SV.tr, SV.trL, fz, allP, Ob.tr, loadA, cellsA, SV.cells, binA, binI, eqOut, isSl, isPt, natOf, callee, snap, SV.refsL, SV.refs, thaw, fzAll, loA, hiA, elemOf, partsA, buildA, putCells, ↓reduceIte, reduceCtorEq, okCell, Nat.reduceAdd, Nat.reduceEqDiff, Nat.reduceSub, Nat.reduceMul, Nat.reduceLeDiff, Nat.reduceLT, Nat.reduceBEq, PV.scal, PV.scalL, SV.scal, SV.scalL, Ob.scal, PV.isCell, pure', resO]
    refine hR _ _ _ (by intro h; cases h) ?_
    simp only [hkl, hmm, hcl, hdl, sls_len, Nat.zero_add, Nat.sub_zero, ↓SP, SQ, Gam.add, stepM, callC, argC, lendO, nmBy, nmC, likeL, likeB, plainOb, offs, exL, X, F, trP, trO, stepD, stepW, newA, SV.tr, SV.trL, fz, allP, Ob.tr, loadA, cellsA, SV.cells, binA, binI, eqOut, isSl, isPt, natOf, callee, snap, SV.refsL, SV.refs, thaw, fzAll, loA, hiA, elemOf, partsA, buildA, putCells, ↓reduceIte, reduceCtorEq, okCell, Nat.reduceAdd, Nat.reduceEqDiff, Nat.reduceSub, Nat.reduceMul, Nat.reduceLeDiff, Nat.reduceLT, Nat.reduceBEq, PV.scal, PV.scalL, SV.scal, SV.scalL, Ob.scal, PV.isCell, pure', resO]
    refine finA_gen [] trivial (by simp [retA, rvA, mkE_cons, mk_nil, mkO_cons, mkO_nil, loadA, SV.tr, SV.trL, nmF, rn_nil, rn_cons1, rn_cons2, plainOb, SV.refsL, SV.refs, Ob.refs, X, F, List.range_succ, mkO, setO_mk]; rfl) ?_ ?_ ?_ ?_ ?_ ?_ ?_ <;> simp [retA, rvA, mkE_cons, mk_nil, mkO_cons, mkO_nil, loadA, SV.tr, SV.trL, nmF, rn_nil, rn_cons1, rn_cons2, plainOb, SV.refsL, SV.refs, Ob.refs, X, F, List.range_succ, mkO, setO_mk]
def a_best1 (f_nSplit : FuncId) : AFn := ⟨4, 
  .seq (.reg [⟨some 5, none, .d (.mv (.c (.bool false)))⟩])
  (.seq (.dreg [] [([], ⟨some 6, none, .d (.load true 2 (.t 1))⟩),
    ([], ⟨some 7, none, .d (.load false 1 (.t 2))⟩),
    ([], ⟨some 8, none, .d (.mv (.t 0))⟩),
    ([], ⟨some 9, none, .d (.call (.f f_nSplit) [(.t 6), (.t 7), (.t 8)])⟩),
    ([], ⟨some 10, none, .d (.load false 1 (.t 3))⟩)] [⟨some 11, none, .d (.bin .arith .neq (.t 9) (.t 10))⟩,
    ⟨some 5, none, .d (.mv (.t 11))⟩])
  (.ret)), [.tmp 5]⟩
def n_best1 : Nat → Option Ann := fun _ => none
abbrev k_best1 : List Nat := [0, 1, 2, 3, 5]
abbrev o_best1 : List Nat := []
noncomputable def c_best1 (Γ2 : Gam) : Con := pure' fun
  | [.p (.sl 1 s_), .p (.cp [.fn g [] [], .mapv es]), .p (.cp [.sl 1 c_]), .p (.cp [.int .i64 nd])] =>
    (match c_nSplit Γ2 [.p (.agg [.fn g [] [], .mapv es]), .p (.sl 1 c_), .p (.sl 1 s_)] [] with
      | some (.p (.int .i64 v), [], []) => some (.p (.bool (v != nd)), [])
      | _ => none)
  | _ => none
theorem s_best1 {P : Program} (hm : P.follows .mixedOrders = true) {Γ : Gam} (hΓ : GS P Γ) {n : FuncId} {f_nSplit : FuncId} (is : Is P n (a_best1 f_nSplit)) {Γ2 : Gam} (h_nSplit : Γ f_nSplit = c_nSplit Γ2) : Says P n (c_best1 Γ2) := by
  refine Says.pure fun args r fs h => ?_
  split at h
  case h_2 => cases h
  rename_i s_ g es c_ nd
  split at h
  case h_2 => cases h
  rename_i v hv
  simp only [Option.some.injEq, Prod.mk.injEq] at h
  obtain ⟨rfl, rfl⟩ := h
  refine is.go hm hΓ k_best1 o_best1 (by simp [a_best1]) ?_
  simp only [a_best1, h_nSplit, hv, List.zipIdx_cons, List.zipIdx_nil, ↓SP, SQ, Gam.add, stepM, callC, argC, lendO, nmBy, nmC, likeL, likeB, plainOb, offs, exL, X, F, trP, trO, stepD, stepW, newA, SV.tr, SV.trL, fz, allP, Ob.tr, loadA, cellsA, SV.cells, binA, binI, eqOut, isSl, isPt, natOf, callee, snap, SV.refsL, SV.refs, thaw, fzAll, loA, hiA, elemOf, partsA, buildA, putCells, ↓reduceIte, reduceCtorEq, okCell, Nat.reduceAdd, Nat.reduceEqDiff, Nat.reduceSub, Nat.reduceMul, Nat.reduceLeDiff, Nat.reduceLT, Nat.reduceBEq, PV.scal, PV.scalL, SV.scal, SV.scalL, Ob.scal, PV.isCell, pure', resO]
  exact finA_val (by simp [retA, rvA, mkE_cons, mk_nil, mkO_cons, mkO_nil, loadA, SV.tr, SV.trL, nmF, rn_nil, rn_cons1, rn_cons2, plainOb, SV.refsL, SV.refs, Ob.refs, X, F, List.range_succ, mkO, setO_mk]) (by simp [SV.tr, SV.trL])
/-- Whether a split has the need of counts. -/
noncomputable def beQ (Γ2 : Gam) (g : FuncId) (es : List (PV × PV)) (c s : List Int) : Bool := decide (1 + mxI (ofE es (ruleY Γ2 g c s)) (ofE es (noL c s)) = ofE es c)
noncomputable def beL (Γ2 : Gam) (g : FuncId) (es : List (PV × PV)) (c : List Int) : List (List Int) := (splL c).filter (beQ Γ2 g es c)
def a_nBest (f_nOf : FuncId) (f_splits : FuncId) (f_best1 : FuncId) (f_DelS : FuncId) : AFn := ⟨2, 
  .seq (.reg [⟨some 2, none, .w (.box 2 (.t 0))⟩,
    ⟨some 3, none, .w (.box 1 (.t 1))⟩,
    ⟨some 4, none, .d (.mv (.c (.nilsl)))⟩])
  (.seq (.reg [⟨some 6, none, .d (.load true 2 (.t 2))⟩,
    ⟨some 7, none, .d (.load false 1 (.t 3))⟩,
    ⟨some 8, none, .d (.call (.f f_nOf) [(.t 6), (.t 7)])⟩,
    ⟨some 5, none, .w (.alloc [.int .i64 0])⟩,
    ⟨none, none, .w (.store 1 (.t 5) (.t 8))⟩])
  (.seq (.reg [⟨some 9, none, .d (.load false 1 (.t 3))⟩,
    ⟨some 10, none, .w (.callL (.f f_splits) [(.t 9)] [] 1 false)⟩,
    ⟨some 11, none, .d (.mkfn f_best1 [] [(.t 2), (.t 3), (.t 5)])⟩,
    ⟨some 12, none, .w (.callL (.f f_DelS) [(.t 10), (.t 11)] [10] 0 true)⟩,
    ⟨some 4, none, .d (.mv (.t 12))⟩])
  (.ret))), [.tmp 4]⟩
def n_nBest : Nat → Option Ann := fun d => if d = 10 then some ⟨[], 1, false⟩ else if d = 12 then some ⟨[10], 0, true⟩ else none
abbrev k_nBest : List Nat := [0, 1, 2, 3, 4, 5]
abbrev o_nBest : List Nat := [2, 3, 5, 10]
open Classical in
noncomputable def c_nBest (Γ2 : Gam) : Con := pure' fun
  | [.p (.agg [.fn g [] [], .mapv es]), .p (.sl 1 c_)] =>
    if (Γ2 g = c_bothWays ∨ Γ2 g = c_oneWay) ∧ okE es = true ∧ isI c_ = true ∧ okC (ofI c_) = true ∧ ((splL (ofI c_)).any fun s => !beQ Γ2 g es (ofI c_) s) = true then
      some (.sub 2000000 0 (beL Γ2 g es (ofI c_)).length, [.arr 1 (sls (beL Γ2 g es (ofI c_)) ++ List.replicate ((splL (ofI c_)).length - (beL Γ2 g es (ofI c_)).length) .nilsl)])
    else none
  | _ => none
theorem ask_best1 {Γ0 Γ2 : Gam} {f_best1 g : FuncId} {es : List (PV × PV)} {c : List Int} (h : Γ0 f_best1 = c_best1 Γ2) (hg : Γ2 g = c_bothWays ∨ Γ2 g = c_oneWay) (hE : okE es = true) (hc : okC c = true) :
    askF Γ0 f_best1 [] [.cp [.fn g [] [], .mapv es], .cp [.sl 1 (ints c)], .cp [.int .i64 (ofE es c)]] (sls (splL c)) = some ((splL c).map fun s => !beQ Γ2 g es c s) := by
  obtain ⟨⟨l1, l3⟩, h8, _⟩ := okC_out hc
  refine askF_eq fun s hs => ?_
  have hsl := spl_len hs
  have hs8 := spl_in8 h8 hs
  have hb1 : bd 1000 c = true := bd_in8 h8 (by omega)
  have hb2 : bd 1000 s = true := bd_in8 hs8 (by omega)
  have hq : (1 + mxI (ofE es (ruleY Γ2 g c s)) (ofE es (noL c s)) != ofE es c) = !beQ Γ2 g es c s := by
    simp only [beQ, bne]
    congr 1
  rw [h]
  simp only [List.nil_append, List.cons_append, List.map_cons, List.map_nil, c_best1, pure', c_nSplit, hg, hE, isI_ints, ofI_ints, ints_len, l1, l3, hsl, hb1, hb2, and_self, if_true, Option.map_some, hq]
theorem sls_app_take (L : List (List Int)) (r : List PV) : (sls L ++ r).take L.length = sls L := by
  have := List.take_left (l₁ := sls L) (l₂ := r)
  rwa [sls_len] at this
theorem s_nBest {P : Program} (hm : P.follows .mixedOrders = true) {Γ : Gam} (hΓ : GS P Γ) {n : FuncId} {f_nOf : FuncId} {f_splits : FuncId} {f_best1 : FuncId} {f_DelS : FuncId} (is : Is P n (a_nBest f_nOf f_splits f_best1 f_DelS)) (h_nOf : Γ f_nOf = c_nOf) (h_splits : Γ f_splits = c_splits) {Γ0 Γ1 Γ2 : Gam} (h_DelS : Γ f_DelS = c_DelS Γ0 Γ1) (h_best1a : Γ0 f_best1 = c_best1 Γ2) (h_best1b : Γ1 f_best1 = c_best1 Γ2) : Says P n (c_nBest Γ2) := by
  refine Says.pure fun args r fs h => ?_
  split at h
  case h_2 => cases h
  rename_i g es c_
  split at h
  case isFalse => cases h
  rename_i hc
  obtain ⟨hg, hE, hc_, hok, hany⟩ := hc
  obtain ⟨c, rfl⟩ := isI_out hc_
  rw [ofI_ints] at hok hany
  simp only [ofI_ints, Option.some.injEq, Prod.mk.injEq] at h
  obtain ⟨rfl, rfl⟩ := h
  obtain ⟨⟨l1, l3⟩, h8, _⟩ := okC_out hok
  have hsl := spI_len3 h8 l3
  have hsl2 : (splL c).length ≤ 1100000 := Nat.le_trans hsl (by omega)
  have a0 := ask_best1 h_best1a hg hE hok
  have a1 := ask_best1 h_best1b hg hE hok
  have hany2 : (((splL c).map fun s => !beQ Γ2 g es c s).any id) = true := by rw [List.any_map]; exact hany
  have hkp : kpI [] (splL c) ((splL c).map fun s => !beQ Γ2 g es c s) (splL c).length = beL Γ2 g es c := by
    rw [kpI_filter _ _ (Nat.le_refl _), List.take_length, beL]
    congr 1; funext s; simp
  have hdel : c_DelS Γ0 Γ1 [.ar 1000000, .p (.fn f_best1 [] [.cp [.fn g [] [], .mapv es], .cp [.sl 1 (ints c)], .cp [.int .i64 (ofE es c)]])] [.arr 1 (sls (splL c))] = some (.sub 1000000 0 (beL Γ2 g es c).length, [.arr 1 (sls (beL Γ2 g es c) ++ List.replicate ((splL c).length - (beL Γ2 g es c).length) .nilsl)], []) := by
    simp only [c_DelS, isS_sls, sls_len, hsl2, a0, a1, hany2, lsOf_sls, hkp, and_self, if_true]
  have hle : (beL Γ2 g es c).length ≤ (splL c).length := List.length_filter_le _ _
  have hlen : (sls (beL Γ2 g es c) ++ List.replicate ((splL c).length - (beL Γ2 g es c).length) PV.nilsl).length = (splL c).length := by simp [sls_len]; omega
  have hbe : ((splL c).length == (splL c).length) = true := beq_self_eq_true _
  refine is.go hm hΓ k_nBest o_nBest (by simp [a_nBest]) ?_
  simp only [a_nBest, h_nOf, c_nOf, h_splits, c_splits, hE, l1, l3, h8, h_DelS, hdel, hlen, hbe, sls_len, isI_ints, ofI_ints, ints_len, List.zipIdx_cons, List.zipIdx_nil, ↓SP, SQ, Gam.add, stepM, callC, argC, lendO, nmBy, nmC, likeL, likeB, plainOb, offs, exL, X, F, trP, trO, stepD, stepW, newA, SV.tr, SV.trL, fz, allP, Ob.tr, loadA, cellsA, SV.cells, binA, binI, eqOut, isSl, isPt, natOf, callee, snap, SV.refsL, SV.refs, thaw, fzAll, loA, hiA, elemOf, partsA, buildA, putCells, ↓reduceIte, reduceCtorEq, okCell, Nat.reduceAdd, Nat.reduceEqDiff, Nat.reduceSub, Nat.reduceMul, Nat.reduceLeDiff, Nat.reduceLT, Nat.reduceBEq, PV.scal, PV.scalL, SV.scal, SV.scalL, Ob.scal, PV.isCell, pure', resO]
  refine finA_gen [10] trivial (by simp [retA, rvA, mkE_cons, mk_nil, mkO_cons, mkO_nil, loadA, SV.tr, SV.trL, nmF, rn_nil, rn_cons1, rn_cons2, plainOb, SV.refsL, SV.refs, Ob.refs, X, F, List.range_succ, mkO, setO_mk]; rfl) ?_ ?_ ?_ ?_ ?_ ?_ ?_ <;> simp [retA, rvA, mkE_cons, mk_nil, mkO_cons, mkO_nil, loadA, SV.tr, SV.trL, nmF, rn_nil, rn_cons1, rn_cons2, plainOb, SV.refsL, SV.refs, Ob.refs, X, F, List.range_succ, mkO, setO_mk]
def beP (both : Bool) (c s : List Int) : Bool := decide (1 + mxI (ndI both (yb both c s)) (ndI both (noL c s)) = ndI both c)
def beS (both : Bool) (c : List Int) : List (List Int) := (splL c).filter (beP both c)
theorem yb_okC {both : Bool} {c s : List Int} (hc : okC c = true) (hu : told c = false) (hs : s ∈ splL c) : okC (yb both c s) = true ∧ okC (noL c s) = true := by
  obtain ⟨h1, h2⟩ := sp_okC hc hu hs
  refine ⟨?_, h2⟩
  cases both with
  | true => exact h1
  | false =>
    obtain ⟨⟨l1, l3⟩, h8, hsum⟩ := okC_out hc
    have hk := keyN_bd (p := c.length) rfl h8
    have hdg := dg_key (p := c.length) rfl l3 h8
    have hch := chk_of (okP_O l1 l3) hk.2 (by rw [hdg]; exact hsum) (by rw [hdg]; exact hu)
    rw [hdg] at hch
    have g2 := chk_inn hch hs
    have hsl := spl_len hs
    have hyb : yb false c s = s := rfl
    rw [hyb] at g2 ⊢
    have e1 := pad_sum (c := s) (by omega) (mem_allT.1 g2.1)
    simp only [okC, hsl, e1.1, dec_t e1.2, Bool.and_true]
    rw [dec_t (by omega), dec_t (by omega)]; rfl
theorem beL_nES {Γ2 : Gam} {g : FuncId} {both : Bool} (hr : isRule Γ2 g both) {c : List Int} (hc : okC c = true) (hu : told c = false) : beL Γ2 g (nES both) c = beS both c := by
  simp only [beL, beS]
  apply List.filter_congr
  intro s hs
  obtain ⟨h1, h2⟩ := yb_okC (both := both) hc hu hs
  simp only [beQ, beP, ruleY_is hr, ofE_nES both h1, ofE_nES both h2, ofE_nES both hc]
theorem zsplit {c : List Int} (h8 : in8 c = true) : ∃ s, s ∈ splL c ∧ noL c s = c := by
  refine ⟨List.replicate c.length 0, mem_spl (okSp_all (by simp) fun j hj => ?_), ?_⟩
  · have := in8_get h8 j
    have e : (List.replicate c.length (0 : Int)).getD j 0 = 0 := by
      rw [List.getD_eq_getElem?_getD, List.getElem?_replicate]; split <;> rfl
    rw [e, dec_t (Int.le_refl 0), dec_t this.1]; rfl
  · apply List.ext_getElem
    · rw [noL_len]; simp
    · intro j h1 h2
      have e0 : ∀ i, (List.replicate c.length (0 : Int)).getD i 0 = 0 := fun i => by
        rw [List.getD_eq_getElem?_getD, List.getElem?_replicate]; split <;> rfl
      have hr : ∀ i, i < c.length → (restL c (List.replicate c.length 0)).getD i 0 = c.getD i 0 := fun i hi => by
        rw [restL_get (by simpa using hi), e0]; omega
      have : (noL c (List.replicate c.length 0)).getD j 0 = c.getD j 0 := by
        have hl : (restL c (List.replicate c.length 0)).length = c.length := by rw [restL_len]; simp
        simp only [noL, movL]
        rw [getD_lt (by simp [hl]; exact h2)]
        simp only [List.getElem_map, List.getElem_range, movF]
        by_cases hj : j = 0
        · subst hj; rw [if_pos rfl, hr 0 h2]
        · rw [if_neg hj, hr j h2, e0]; omega
      rw [getD_lt h1, getD_lt h2] at this
      exact this
theorem be_any {Γ2 : Gam} {g : FuncId} {both : Bool} (hr : isRule Γ2 g both) {c : List Int} (hc : okC c = true) (hu : told c = false) : ((splL c).any fun s => !beQ Γ2 g (nES both) c s) = true := by
  obtain ⟨_, h8, _⟩ := okC_out hc
  obtain ⟨s, hs, hn⟩ := zsplit h8
  obtain ⟨h1, h2⟩ := yb_okC (both := both) hc hu hs
  rw [List.any_eq_true]
  refine ⟨s, hs, ?_⟩
  simp only [beQ, ruleY_is hr, ofE_nES both h1, ofE_nES both h2, ofE_nES both hc, hn]
  have : ¬ 1 + mxI (ndI both (yb both c s)) (ndI both c) = ndI both c := by
    simp only [mxI]; split <;> omega
  rw [dec_f this]; rfl
/-- Best splits of the reference. -/
def beR (c s : List Int) : Bool := decide ((if backB c s = true then -1 else snV c s) = ndI true c)
theorem nd_pos {both : Bool} {c : List Int} (hc : okC c = true) (hu : told c = false) : 1 ≤ ndI both c := by
  have hp := okC_pad hc
  obtain ⟨⟨l1, l3⟩, h8, hsum⟩ := okC_out hc
  have hk := keyN_bd (p := c.length) rfl h8
  have hdg := dg_key (p := c.length) rfl l3 h8
  have hz : ntR both (pad3 c) ≠ 0 := by
    intro h0
    cases both with
    | true =>
      have := (zero_told (okP_B l1 l3) hk.2 (by rw [hdg]; exact hsum)).1 (by rw [hdg]; exact h0)
      rw [hdg, hu] at this; cases this
    | false =>
      have := (zero_told (okP_O l1 l3) hk.2 (by rw [hdg]; exact hsum)).1 (by rw [hdg]; exact h0)
      rw [hdg, hu] at this; cases this
  simp only [ndI]; omega
theorem beR_eq {c s : List Int} (hc : okC c = true) (hu : told c = false) (hs : s ∈ splL c) : beR c s = beP true c s := by
  have hyb : yb true c s = yesL c s := rfl
  have hp := nd_pos (both := true) hc hu
  simp only [beR, beP, hyb]
  cases hb : backB c s with
  | false => simp only [Bool.false_eq_true, if_false]; rfl
  | true =>
    simp only [if_true]
    rw [dec_f (by omega)]
    symm
    apply dec_f
    simp only [backB, Bool.or_eq_true, decide_eq_true_eq] at hb
    rcases hb with h | h
    · rw [h]; simp only [mxI]; split <;> omega
    · rw [h]; simp only [mxI]; split <;> omega
theorem beR_filter {c : List Int} (hc : okC c = true) (hu : told c = false) : (splL c).filter (beR c) = beS true c := by
  simp only [beS]
  exact List.filter_congr fun s hs => beR_eq hc hu hs
def a_l4Best (f_l4Needs : FuncId) (f_l4Splits : FuncId) (f_l4SplitNeed : FuncId) (f_l4Key : FuncId) : AFn := ⟨1, 
  .seq (.reg [⟨some 2, none, .d (.mv (.c (.nilsl)))⟩])
  (.seq (.reg [⟨some 7, none, .w (.bslice 1 [] [])⟩,
    ⟨some 8, none, .d (.mv (.t 0))⟩,
    ⟨some 9, none, .d (.len (.t 8))⟩,
    ⟨some 10, none, .d (.call (.f f_l4Needs) [(.t 9)])⟩,
    ⟨some 11, none, .d (.mv (.t 0))⟩,
    ⟨some 12, none, .d (.call (.f f_l4Splits) [(.t 11)])⟩,
    ⟨some 3, none, .d (.mv (.t 7))⟩,
    ⟨some 4, none, .d (.mv (.t 10))⟩,
    ⟨some 5, none, .d (.mv (.t 12))⟩])
  (.seq (.seq (.reg [⟨some 6, none, .d (.mv (.c (.int .i64 0)))⟩])
  (.block 0 (.loop (.seq (.seq (.reg [⟨some 13, none, .d (.mv (.t 6))⟩,
      ⟨some 14, none, .d (.mv (.t 5))⟩,
      ⟨some 15, none, .d (.len (.t 14))⟩,
      ⟨some 16, none, .d (.bin .arith .lss (.t 13) (.t 15))⟩])
    (.cond (.t 16) (.skip) (.exit 0)))
    (.seq (.block 1 (.seq (.reg [⟨some 19, none, .d (.mv (.t 0))⟩,
       ⟨some 20, none, .d (.mv (.t 5))⟩,
       ⟨some 21, none, .d (.mv (.t 6))⟩,
       ⟨some 22, none, .d (.ia 1 (.t 20) (.t 21))⟩,
       ⟨some 23, none, .d (.load false 1 (.t 22))⟩,
       ⟨some 24, none, .d (.mv (.t 4))⟩,
       ⟨some 25, none, .d (.call (.f f_l4SplitNeed) [(.t 19), (.t 23), (.t 24)])⟩,
       ⟨some 26, none, .d (.mv (.t 4))⟩,
       ⟨some 27, none, .d (.mv (.t 0))⟩,
       ⟨some 28, none, .d (.call (.f f_l4Key) [(.t 27)])⟩,
       ⟨some 29, none, .d (.ia 1 (.t 26) (.t 28))⟩,
       ⟨some 30, none, .d (.load false 1 (.t 29))⟩,
       ⟨some 31, none, .d (.bin .arith .eql (.t 25) (.t 30))⟩])
     (.cond (.t 31) (.reg [⟨some 32, none, .d (.mv (.t 3))⟩,
        ⟨some 33, none, .d (.mv (.t 5))⟩,
        ⟨some 34, none, .d (.mv (.t 6))⟩,
        ⟨some 35, none, .d (.ia 1 (.t 33) (.t 34))⟩,
        ⟨some 36, none, .d (.load false 1 (.t 35))⟩,
        ⟨some 37, none, .w (.bslice 1 [.nilsl] [(0, (.t 36))])⟩,
        ⟨some 38, none, .w (.append 1 (.t 32) (.t 37))⟩,
        ⟨some 3, none, .d (.mv (.t 38))⟩]) (.skip))))
    (.reg [⟨some 17, none, .d (.mv (.t 6))⟩,
      ⟨some 18, none, .d (.bin .arith .add (.t 17) (.c (.int .i64 1)))⟩,
      ⟨some 6, none, .d (.mv (.t 18))⟩]))))))
  (.seq (.reg [⟨some 39, none, .d (.mv (.t 3))⟩,
    ⟨some 2, none, .d (.mv (.t 39))⟩])
  (.ret)))), [.tmp 2]⟩
def n_l4Best : Nat → Option Ann := fun _ => none
abbrev k_l4Best : List Nat := [0, 2, 3, 4, 5, 6, 16, 31]
abbrev o_l4Best : List Nat := [7, 37, 38]
def c_l4Best : Con := pure' fun
  | [.p (.sl 1 c_)] => if isI c_ = true ∧ (okC (ofI c_) = true ∧ told (ofI c_) = false) then some (.ar 2000000, [.arr 1 (sls (beS true (ofI c_)))]) else none
  | _ => none
theorem s_l4Best {P : Program} (hm : P.follows .mixedOrders = true) {Γ : Gam} (hΓ : GS P Γ) {n : FuncId} {f_l4Needs : FuncId} {f_l4Splits : FuncId} {f_l4SplitNeed : FuncId} {f_l4Key : FuncId} (is : Is P n (a_l4Best f_l4Needs f_l4Splits f_l4SplitNeed f_l4Key)) (h_l4Needs : Γ f_l4Needs = c_l4Needs) (h_l4Splits : Γ f_l4Splits = c_splits) (h_l4SplitNeed : Γ f_l4SplitNeed = c_l4SplitNeed) (h_l4Key : Γ f_l4Key = c_l4Key)  : Says P n c_l4Best := by
  refine Says.pure fun args r fs h => ?_
  split at h
  case h_2 => cases h
  rename_i c_
  split at h
  case isFalse => cases h
  rename_i hc
  obtain ⟨hc_, hc⟩ := hc
  obtain ⟨c, rfl⟩ := isI_out hc_
  simp only [ofI_ints, ofBo_bools, ofAs_asks, Option.some.injEq, Prod.mk.injEq] at h hc
  obtain ⟨rfl, rfl⟩ := h
  obtain ⟨hok, hu⟩ := hc
  obtain ⟨⟨l1, l3⟩, h8, _⟩ := okC_out hok
  have hokw := okw_of hok hu
  have l1' : (1 : Int) ≤ c.length := by omega
  have l3' : (c.length : Int) ≤ 3 := by omega
  have htl := tabK_len (ntT tabB) c.length 9
  have hbt := tabK_bd (nt := ntT tabB) (p := c.length) (k := 9) (by omega)
  have hsl := spI_len3 h8 l3
  have hsl2 : (splL c).length ≤ 729 := hsl
  obtain ⟨k0, k1⟩ := keyN_bd (p := c.length) rfl h8
  have hkk : (keyL c).toNat = keyN c := rfl
  have hgt := ints_get (l := tabK (ntT tabB) c.length 9) (i := keyN c) (by rw [tabK_len]; exact k1)
  rw [(tab_nd hok).1] at hgt
  rw [← beR_filter hok hu]
  refine is.go hm hΓ k_l4Best o_l4Best (by simp [a_l4Best]) ?_
  simp only [a_l4Best, h_l4Needs, c_l4Needs, h_l4Splits, c_splits, h_l4SplitNeed, c_l4SplitNeed, h_l4Key, c_l4Key, l1', l3', l3, h8, Int.toNat_natCast, List.zipIdx_cons, List.zipIdx_nil, ↓SP, SQ, Gam.add, stepM, callC, argC, lendO, nmBy, nmC, likeL, likeB, plainOb, offs, exL, X, F, trP, trO, stepD, stepW, newA, SV.tr, SV.trL, fz, allP, Ob.tr, loadA, cellsA, SV.cells, binA, binI, eqOut, isSl, isPt, natOf, callee, snap, SV.refsL, SV.refs, thaw, fzAll, loA, hiA, elemOf, partsA, buildA, putCells, ↓reduceIte, reduceCtorEq, okCell, Nat.reduceAdd, Nat.reduceEqDiff, Nat.reduceSub, Nat.reduceMul, Nat.reduceLeDiff, Nat.reduceLT, Nat.reduceBEq, PV.scal, PV.scalL, SV.scal, SV.scalL, Ob.scal, PV.isCell, pure', resO]
  refine loop_at (fun st : J => mkEnv [(0, .p (.sl 1 (ints c))), (2, .p .nilsl), (3, .ar 7), (4, .p (.sl 1 (ints (tabK (ntT tabB) c.length 9)))), (5, .p (.sl 1 (sls (splL c)))), (6, si st.i), (16, st.a), (31, st.b)]) (fun st => mkO [(7, some (.arr 1 (sls (((splL c).take st.i).filter (beR c))))), (37, st.o), (38, none)]) (fun st => st.i ≤ (splL c).length) (fun st => (splL c).length - st.i) ⟨0, .junk, .junk, .junk, .junk, .junk, .junk, .junk, .junk, .junk, .junk, .junk, .junk, none, none, none⟩ (by simp) rfl rfl ?_
  rintro ⟨i, c1, c2, c3, c4, c5, c6, c7, c8, c9, c10, c11, c12, o1, o2, o3⟩ hi R hR hN
  simp only at hi
  by_cases h : i < (splL c).length
  · have h1 : (i : Int) < (splL c).length := by omega
    have hw := wrap_one (i := i) (by omega)
    have hg := sls_get h
    obtain ⟨s, hs⟩ : ∃ s, (splL c).getD i [] = s := ⟨_, rfl⟩
    have hsm : s ∈ splL c := by rw [← hs, getD_lt h]; exact List.getElem_mem h
    rw [hs] at hg
    obtain ⟨ty, tn⟩ := tab_yn hok hu hsm
    have hsv : 1 + mxI (ndI true (yesL c s)) (ndI true (noL c s)) = snV c s := rfl
    have hq0 := take_one (splL c) i [] h
    rw [hs] at hq0
    have hfl : (((splL c).take i).filter (beR c)).length + 1 ≤ roomA := by
      have := List.length_filter_le (beR c) ((splL c).take i)
      rw [List.length_take] at this
      unfold roomA; omega
    cases hb : beR c s with
    | true =>
      have hb2 : ((if backB c s = true then -1 else snV c s) == ndI true c) = true := by
        simp only [beR, decide_eq_true_eq] at hb; rw [hb]; exact beq_self_eq_true _
      have hapx : ((splL c).take i).filter (beR c) ++ [s] = ((splL c).take (i + 1)).filter (beR c) := by
        rw [hq0, List.filter_append]; simp only [List.filter_cons, hb, List.filter_nil, if_true]
      simp only [h1, hw, hg, hokw, hsm, htl, hbt, ty, tn, hsv, hb2, k0, hkk, hgt, hapx, hfl, l3, h8, sls_len, sls_app1, sls_cell, h_l4SplitNeed, c_l4SplitNeed, h_l4Key, c_l4Key, isI_ints, ofI_ints, ints_len, ↓SP, SQ, Gam.add, stepM, callC, argC, lendO, nmBy, nmC, likeL, likeB, plainOb, offs, exL, X, F, trP, trO, stepD, stepW, newA, SV.tr, SV.trL, fz, allP, Ob.tr, loadA, cellsA, SV.cells, binA, binI, eqOut, isSl, isPt, natOf, callee, snap, SV.refsL, SV.refs, thaw, fzAll, loA, hiA, elemOf, partsA, buildA, putCells, ↓reduceIte, reduceCtorEq, okCell, Nat.reduceAdd, Nat.reduceEqDiff, Nat.reduceSub, Nat.reduceMul, Nat.reduceLeDiff, Nat.reduceLT, Nat.reduceBEq, PV.scal, PV.scalL, SV.scal, SV.scalL, Ob.scal, PV.isCell, pure', resO]
      exact hN ⟨i + 1, _, _, .junk, .junk, .junk, .junk, .junk, .junk, .junk, .junk, .junk, .junk, _, none, none⟩ _ _ (by simp only; omega) (by simp only; omega) rfl rfl
    | false =>
      have hb2 : ((if backB c s = true then -1 else snV c s) == ndI true c) = false := by
        simp only [beR, decide_eq_false_iff_not] at hb; exact beq_eq_false_iff_ne.2 hb
      have hapx : ((splL c).take (i + 1)).filter (beR c) = ((splL c).take i).filter (beR c) := by
        rw [hq0, List.filter_append]; simp only [List.filter_cons, hb, List.filter_nil, Bool.false_eq_true, if_false, List.append_nil]
      simp only [h1, hw, hg, hokw, hsm, htl, hbt, ty, tn, hsv, hb2, k0, hkk, hgt, l3, h8, sls_len, h_l4SplitNeed, c_l4SplitNeed, h_l4Key, c_l4Key, isI_ints, ofI_ints, ints_len, ↓SP, SQ, Gam.add, stepM, callC, argC, lendO, nmBy, nmC, likeL, likeB, plainOb, offs, exL, X, F, trP, trO, stepD, stepW, newA, SV.tr, SV.trL, fz, allP, Ob.tr, loadA, cellsA, SV.cells, binA, binI, eqOut, isSl, isPt, natOf, callee, snap, SV.refsL, SV.refs, thaw, fzAll, loA, hiA, elemOf, partsA, buildA, putCells, ↓reduceIte, reduceCtorEq, okCell, Nat.reduceAdd, Nat.reduceEqDiff, Nat.reduceSub, Nat.reduceMul, Nat.reduceLeDiff, Nat.reduceLT, Nat.reduceBEq, PV.scal, PV.scalL, SV.scal, SV.scalL, Ob.scal, PV.isCell, pure', resO]
      exact hN ⟨i + 1, _, _, .junk, .junk, .junk, .junk, .junk, .junk, .junk, .junk, .junk, .junk, _, none, none⟩ _ _ (by simp only; omega) (by simp only; omega) rfl (by rw [hapx])
  · have he : i = (splL c).length := by omega
    have h1 : ¬ (i : Int) < (splL c).length := by omega
    subst he
    have hfe : ((splL c).take (splL c).length).filter (beR c) = (splL c).filter (beR c) := by rw [List.take_length]
    simp only [h1, sls_len, ↓SP, SQ, Gam.add, stepM, callC, argC, lendO, nmBy, nmC, likeL, likeB, plainOb, offs, exL, X, F, trP, trO, stepD, stepW, newA, SV.tr, SV.trL, fz, allP, Ob.tr, loadA, cellsA, SV.cells, binA, binI, eqOut, isSl, isPt, natOf, callee, snap, SV.refsL, SV.refs, thaw, fzAll, loA, hiA, elemOf, partsA, buildA, putCells, ↓reduceIte, reduceCtorEq, okCell, Nat.reduceAdd, Nat.reduceEqDiff, Nat.reduceSub, Nat.reduceMul, Nat.reduceLeDiff, Nat.reduceLT, Nat.reduceBEq, PV.scal, PV.scalL, SV.scal, SV.scalL, Ob.scal, PV.isCell, pure', resO]
    refine hR _ _ _ (by intro h; cases h) ?_
    simp only [hfe, ↓SP, SQ, Gam.add, stepM, callC, argC, lendO, nmBy, nmC, likeL, likeB, plainOb, offs, exL, X, F, trP, trO, stepD, stepW, newA, SV.tr, SV.trL, fz, allP, Ob.tr, loadA, cellsA, SV.cells, binA, binI, eqOut, isSl, isPt, natOf, callee, snap, SV.refsL, SV.refs, thaw, fzAll, loA, hiA, elemOf, partsA, buildA, putCells, ↓reduceIte, reduceCtorEq, okCell, Nat.reduceAdd, Nat.reduceEqDiff, Nat.reduceSub, Nat.reduceMul, Nat.reduceLeDiff, Nat.reduceLT, Nat.reduceBEq, PV.scal, PV.scalL, SV.scal, SV.scalL, Ob.scal, PV.isCell, pure', resO]
    refine finA_gen [7] trivial (by simp [retA, rvA, mkE_cons, mk_nil, mkO_cons, mkO_nil, loadA, SV.tr, SV.trL, nmF, rn_nil, rn_cons1, rn_cons2, plainOb, SV.refsL, SV.refs, Ob.refs, X, F, List.range_succ, mkO, setO_mk]; rfl) ?_ ?_ ?_ ?_ ?_ ?_ ?_ <;> simp [retA, rvA, mkE_cons, mk_nil, mkO_cons, mkO_nil, loadA, SV.tr, SV.trL, nmF, rn_nil, rn_cons1, rn_cons2, plainOb, SV.refsL, SV.refs, Ob.refs, X, F, List.range_succ, mkO, setO_mk]
def hdS (c : List Int) : List Int := (beS false c).getD 0 []
structure HD (c : List Int) : Prop where
  mem : hdS c ∈ splL c
  ok1 : okC (hdS c) = true
  ok2 : okC (noL c (hdS c)) = true
  lt1 : ndI false (hdS c) < ndI false c
  lt2 : ndI false (noL c (hdS c)) < ndI false c
  len : 0 < (beS false c).length
  fnd : bsF (tabK (ntT tabO) c.length 6) (ndI false c) c = some (hdS c)
theorem chkO_of {c : List Int} (hc : okC c = true) (hu : told c = false) : chkN false (ntT tabO) c = true := by
  obtain ⟨⟨l1, l3⟩, h8, hsum⟩ := okC_out hc
  have hk := keyN_bd (p := c.length) rfl h8
  have hdg := dg_key (p := c.length) rfl l3 h8
  have hch := chk_of (okP_O l1 l3) hk.2 (by rw [hdg]; exact hsum) (by rw [hdg]; exact hu)
  rwa [hdg] at hch
theorem beP_iff {c s : List Int} (hc : okC c = true) (hu : told c = false) (hs : s ∈ splL c) : boQ (tabK (ntT tabO) c.length 6) (ndI false c) c s = beP false c s := by
  have hch := chkO_of hc hu
  simp only [chkN, Bool.and_eq_true, List.all_eq_true, decide_eq_true_eq] at hch
  have hle := (hch.1 s hs).2
  obtain ⟨h1, h2⟩ := yb_okC (both := false) hc hu hs
  have hyb : yb false c s = s := rfl
  rw [hyb] at h1 hle
  have hsl := spl_len hs
  have e1 := (tab_nd h1).2
  have e2 := (tab_nd h2).2
  rw [hsl] at e1
  rw [noL_len, hsl] at e2
  simp only [boQ, beP, e1, e2, hyb]
  have n1 := (ndI_bd false h1).1
  have n2 := (ndI_bd false h2).1
  have hle2 : ndI false c ≤ 1 + mxI (ndI false s) (ndI false (noL c s)) := by
    have a1 : ndI false c = (ntT tabO (pad3 c) : Int) := rfl
    have a2 : ndI false s = (ntT tabO (pad3 s) : Int) := rfl
    have a3 : ndI false (noL c s) = (ntT tabO (pad3 (noL c s)) : Int) := rfl
    rw [a1, a2, a3]
    simp only [mxI]
    split <;> omega
  rw [dec_t n1, dec_t n2, Bool.eq_iff_iff]
  simp only [Bool.true_and, Bool.and_eq_true, decide_eq_true_eq]
  simp only [mxI] at hle2 ⊢
  constructor
  · rintro ⟨g1, g2⟩
    split at hle2 <;> split <;> omega
  · intro g
    split at g <;> omega
theorem HD.of {c : List Int} (hc : okC c = true) (hu : told c = false) : HD c := by
  have hch := chkO_of hc hu
  simp only [chkN, Bool.and_eq_true, List.all_eq_true, List.any_eq_true, decide_eq_true_eq] at hch
  obtain ⟨hall, s0, hs0, hm0⟩ := hch
  have hyb : ∀ s, yb false c s = s := fun _ => rfl
  have hle0 := (hall s0 hs0).2
  rw [hyb] at hm0 hle0
  have hp0 : beP false c s0 = true := by
    simp only [beP, hyb, decide_eq_true_eq]
    have a1 : ndI false c = (ntT tabO (pad3 c) : Int) := rfl
    have a2 : ndI false s0 = (ntT tabO (pad3 s0) : Int) := rfl
    have a3 : ndI false (noL c s0) = (ntT tabO (pad3 (noL c s0)) : Int) := rfl
    rw [a1, a2, a3]
    simp only [mxI]
    split <;> omega
  have hmem0 : s0 ∈ beS false c := List.mem_filter.2 ⟨hs0, hp0⟩
  have hlen : 0 < (beS false c).length := List.length_pos_of_mem hmem0
  have hhd : hdS c ∈ beS false c := by rw [hdS, getD_lt hlen]; exact List.getElem_mem hlen
  obtain ⟨hm, hp⟩ := List.mem_filter.1 hhd
  obtain ⟨o1, o2⟩ := yb_okC (both := false) hc hu hm
  rw [hyb] at o1
  have hlt : ndI false (hdS c) < ndI false c ∧ ndI false (noL c (hdS c)) < ndI false c := by
    simp only [beP, hyb, decide_eq_true_eq, mxI] at hp
    split at hp <;> omega
  refine ⟨hm, o1, o2, hlt.1, hlt.2, hlen, ?_⟩
  rw [bsF]
  have hfe : (splL c).find? (boQ (tabK (ntT tabO) c.length 6) (ndI false c) c) = (splL c).find? (beP false c) := by
    have key : ∀ L : List (List Int), (∀ s ∈ L, s ∈ splL c) → L.find? (boQ (tabK (ntT tabO) c.length 6) (ndI false c) c) = L.find? (beP false c) := by
      intro L
      induction L with
      | nil => intro _; rfl
      | cons s r ih =>
        intro h
        simp only [List.find?_cons, beP_iff hc hu (h s (by simp)), ih fun t ht => h t (by simp [ht])]
    exact key _ fun _ h => h
  rw [hfe, ← List.head?_filter]
  have hb : (splL c).filter (beP false c) = beS false c := rfl
  rw [hb, hdS]
  cases hL : beS false c with
  | nil => rw [hL] at hlen; simp at hlen
  | cons a r => rfl
def hdB (c : List Int) : List Int := (beS true c).getD 0 []
theorem chkB_of {c : List Int} (hc : okC c = true) (hu : told c = false) : chkN true (ntT tabB) c = true := by
  obtain ⟨⟨l1, l3⟩, h8, hsum⟩ := okC_out hc
  have hk := keyN_bd (p := c.length) rfl h8
  have hdg := dg_key (p := c.length) rfl l3 h8
  have hch := chk_of (okP_B l1 l3) hk.2 (by rw [hdg]; exact hsum) (by rw [hdg]; exact hu)
  rwa [hdg] at hch
structure HB (c : List Int) : Prop where
  mem : hdB c ∈ splL c
  len : 0 < (beS true c).length
  best : snV c (hdB c) = ndI true c
  back : backB c (hdB c) = false
theorem HB.of {c : List Int} (hc : okC c = true) (hu : told c = false) : HB c := by
  have hch := chkB_of hc hu
  simp only [chkN, Bool.and_eq_true, List.all_eq_true, List.any_eq_true, decide_eq_true_eq] at hch
  obtain ⟨hall, s0, hs0, hm0⟩ := hch
  have hyb : ∀ s, yb true c s = yesL c s := fun _ => rfl
  have hle0 := (hall s0 hs0).2
  rw [hyb] at hm0 hle0
  have hp0 : beP true c s0 = true := by
    simp only [beP, hyb, decide_eq_true_eq]
    have a1 : ndI true c = (ntT tabB (pad3 c) : Int) := rfl
    have a2 : ndI true (yesL c s0) = (ntT tabB (pad3 (yesL c s0)) : Int) := rfl
    have a3 : ndI true (noL c s0) = (ntT tabB (pad3 (noL c s0)) : Int) := rfl
    rw [a1, a2, a3]
    simp only [mxI]
    split <;> omega
  have hmem0 : s0 ∈ beS true c := List.mem_filter.2 ⟨hs0, hp0⟩
  have hlen : 0 < (beS true c).length := List.length_pos_of_mem hmem0
  have hhd : hdB c ∈ beS true c := by rw [hdB, getD_lt hlen]; exact List.getElem_mem hlen
  obtain ⟨hm, hp⟩ := List.mem_filter.1 hhd
  have hbest : snV c (hdB c) = ndI true c := by have h := hp; simp only [beP, hyb, decide_eq_true_eq] at h; exact h
  refine ⟨hm, hlen, hbest, ?_⟩
  simp only [snV] at hbest
  simp only [backB, Bool.or_eq_false_iff, decide_eq_false_iff_not]
  constructor
  · intro h; rw [h] at hbest; simp only [mxI] at hbest; split at hbest <;> omega
  · intro h; rw [h] at hbest; simp only [mxI] at hbest; split at hbest <;> omega
def a_BestSplit (f_isUntold : FuncId) (f_neederOf : FuncId) (f_bothWays : FuncId) (f_nBest : FuncId) : AFn := ⟨1, 
  .seq (.reg [⟨some 2, none, .d (.mv (.c (.nilsl)))⟩,
    ⟨some 3, none, .d (.mv (.c (.bool false)))⟩])
  (.seq (.seq (.reg [⟨some 4, none, .d (.mv (.t 0))⟩,
    ⟨some 5, none, .d (.call (.f f_isUntold) [(.t 4)])⟩,
    ⟨some 6, none, .d (.not (.t 5))⟩])
  (.cond (.t 6) (.seq (.reg [⟨some 2, none, .d (.mv (.c (.nilsl)))⟩,
     ⟨some 3, none, .d (.mv (.c (.bool false)))⟩])
   (.ret)) (.skip)))
  (.seq (.reg [⟨some 7, none, .d (.call (.f f_neederOf) [(.f f_bothWays)])⟩,
    ⟨some 8, none, .d (.mv (.t 0))⟩,
    ⟨some 9, none, .d (.call (.f f_nBest) [(.t 7), (.t 8)])⟩,
    ⟨some 10, none, .d (.ia 1 (.t 9) (.c (.int .i64 0)))⟩,
    ⟨some 11, none, .d (.load false 1 (.t 10))⟩,
    ⟨some 2, none, .d (.mv (.t 11))⟩,
    ⟨some 3, none, .d (.mv (.c (.bool true)))⟩])
  (.ret))), [.tmp 2, .tmp 3]⟩
def n_BestSplit : Nat → Option Ann := fun _ => none
abbrev k_BestSplit : List Nat := [0, 2, 3, 6]
abbrev o_BestSplit : List Nat := []
def a_s_BestSplit (f_l4Counts : FuncId) (f_l4Told : FuncId) (f_l4Best : FuncId) (f_l1Own : FuncId) : AFn := ⟨1, 
  .seq (.reg [⟨some 2, none, .d (.mv (.c (.nilsl)))⟩,
    ⟨some 3, none, .d (.mv (.c (.bool false)))⟩])
  (.seq (.seq (.reg [⟨some 4, none, .d (.mv (.t 0))⟩,
    ⟨some 5, none, .d (.call (.f f_l4Counts) [(.t 4)])⟩,
    ⟨some 6, none, .d (.not (.t 5))⟩,
    ⟨some 7, none, .d (.mv (.t 6))⟩,
    ⟨some 8, some (7, false), .d (.mv (.t 0))⟩,
    ⟨some 9, some (7, false), .d (.call (.f f_l4Told) [(.t 8)])⟩,
    ⟨some 10, none, .d (.pick (.t 7) (.c (.bool true)) (.t 9))⟩])
  (.cond (.t 10) (.seq (.reg [⟨some 11, none, .w (.bslice 1 [] [])⟩,
     ⟨some 2, none, .d (.mv (.t 11))⟩,
     ⟨some 3, none, .d (.mv (.c (.bool false)))⟩])
   (.ret)) (.skip)))
  (.seq (.reg [⟨some 12, none, .d (.mv (.t 0))⟩,
    ⟨some 13, none, .d (.call (.f f_l4Best) [(.t 12)])⟩,
    ⟨some 14, none, .d (.ia 1 (.t 13) (.c (.int .i64 0)))⟩,
    ⟨some 15, none, .d (.load false 1 (.t 14))⟩,
    ⟨some 16, none, .d (.call (.f f_l1Own) [(.t 15)])⟩,
    ⟨some 2, none, .d (.mv (.t 16))⟩,
    ⟨some 3, none, .d (.mv (.c (.bool true)))⟩])
  (.ret))), [.tmp 2, .tmp 3]⟩
def n_s_BestSplit : Nat → Option Ann := fun _ => none
abbrev k_s_BestSplit : List Nat := [0, 2, 3, 10]
abbrev o_s_BestSplit : List Nat := [11]
def c_BestSplit : Con := pure' fun
  | [.p (.sl 1 c_)] => if isI c_ = true ∧ ((ofI c_).length ≤ 1100000) then some (.tp [.p (if (okC (ofI c_) && !told (ofI c_)) = true then .sl 1 (ints (hdB (ofI c_))) else .nilsl), .p (.bool (okC (ofI c_) && !told (ofI c_)))], []) else none
  | _ => none
def c_s_BestSplit : Con := pure' fun
  | [.p (.sl 1 c_)] => if isI c_ = true ∧ ((ofI c_).length ≤ 1100000) then some (.tp [if (okC (ofI c_) && !told (ofI c_)) = true then .p (.sl 1 (ints (hdB (ofI c_)))) else .ar 2000000, .p (.bool (okC (ofI c_) && !told (ofI c_)))], if (okC (ofI c_) && !told (ofI c_)) = true then [] else [.arr 1 []]) else none
  | _ => none
theorem s_BestSplit {P : Program} (hm : P.follows .mixedOrders = true) {Γ : Gam} (hΓ : GS P Γ) {n : FuncId} {f_isUntold : FuncId} {f_neederOf : FuncId} {f_bothWays : FuncId} {f_nBest : FuncId} (is : Is P n (a_BestSplit f_isUntold f_neederOf f_bothWays f_nBest)) (h_isUntold : Γ f_isUntold = c_isUntold) {Γ1 Γ2 : Gam} (h_neederOf : Γ f_neederOf = c_neederOf Γ1) (h_bothWays : Γ1 f_bothWays = c_bothWays) (h_nBest : Γ f_nBest = c_nBest Γ2) (h_bothWays2 : Γ2 f_bothWays = c_bothWays) : Says P n c_BestSplit := by
  refine Says.pure fun args r fs h => ?_
  split at h
  case h_2 => cases h
  rename_i c_
  split at h
  case isFalse => cases h
  rename_i hc
  obtain ⟨hc_, hc⟩ := hc
  obtain ⟨c, rfl⟩ := isI_out hc_
  simp only [ofI_ints, ofBo_bools, ofAs_asks, Option.some.injEq, Prod.mk.injEq] at h hc
  obtain ⟨rfl, rfl⟩ := h
  cases h1 : (okC c && !told c) with
  | false =>
    refine is.go hm hΓ k_BestSplit o_BestSplit (by simp [a_BestSplit]) ?_
    simp only [a_BestSplit, h_isUntold, c_isUntold, hc, h1, Bool.false_eq_true, List.zipIdx_cons, List.zipIdx_nil, ↓SP, SQ, Gam.add, stepM, callC, argC, lendO, nmBy, nmC, likeL, likeB, plainOb, offs, exL, X, F, trP, trO, stepD, stepW, newA, SV.tr, SV.trL, fz, allP, Ob.tr, loadA, cellsA, SV.cells, binA, binI, eqOut, isSl, isPt, natOf, callee, snap, SV.refsL, SV.refs, thaw, fzAll, loA, hiA, elemOf, partsA, buildA, putCells, ↓reduceIte, reduceCtorEq, okCell, Nat.reduceAdd, Nat.reduceEqDiff, Nat.reduceSub, Nat.reduceMul, Nat.reduceLeDiff, Nat.reduceLT, Nat.reduceBEq, PV.scal, PV.scalL, SV.scal, SV.scalL, Ob.scal, PV.isCell, pure', resO]
    exact finA_val (by simp [retA, rvA, mkE_cons, mk_nil, mkO_cons, mkO_nil, loadA, SV.tr, SV.trL, nmF, rn_nil, rn_cons1, rn_cons2, plainOb, SV.refsL, SV.refs, Ob.refs, X, F, List.range_succ, mkO, setO_mk]) (by simp [SV.tr, SV.trL])
  | true =>
    have hok : okC c = true := by simp only [Bool.and_eq_true] at h1; exact h1.1
    have hu : told c = false := by simp only [Bool.and_eq_true, Bool.not_eq_true'] at h1; exact h1.2
    have hne := neederOf_both h_bothWays
    have hE := okE_nES true
    have hr : isRule Γ2 f_bothWays true := by simpa [isRule] using h_bothWays2
    have hbl := beL_nES hr hok hu
    have hba := be_any hr hok hu
    have htk := sls_app_take (beS true c) (List.replicate ((splL c).length - (beS true c).length) .nilsl)
    have hln := (HB.of hok hu).len
    have hg := sls_get hln
    have hgd : (beS true c).getD 0 [] = hdB c := rfl
    rw [hgd] at hg
    refine is.go hm hΓ k_BestSplit o_BestSplit (by simp [a_BestSplit]) ?_
    simp only [a_BestSplit, h_isUntold, c_isUntold, hc, h1, hok, hu, h_neederOf, hne, h_nBest, c_nBest, h_bothWays2, true_or, hE, hok, hbl, hba, htk, hln, hg, sls_len, Nat.sub_zero, List.drop_zero, isI_ints, ofI_ints, ints_len, Bool.not_false, Bool.not_true, Bool.false_eq_true, Int.le_refl, Int.reduceToNat, List.zipIdx_cons, List.zipIdx_nil, ↓SP, SQ, Gam.add, stepM, callC, argC, lendO, nmBy, nmC, likeL, likeB, plainOb, offs, exL, X, F, trP, trO, stepD, stepW, newA, SV.tr, SV.trL, fz, allP, Ob.tr, loadA, cellsA, SV.cells, binA, binI, eqOut, isSl, isPt, natOf, callee, snap, SV.refsL, SV.refs, thaw, fzAll, loA, hiA, elemOf, partsA, buildA, putCells, ↓reduceIte, reduceCtorEq, okCell, Nat.reduceAdd, Nat.reduceEqDiff, Nat.reduceSub, Nat.reduceMul, Nat.reduceLeDiff, Nat.reduceLT, Nat.reduceBEq, PV.scal, PV.scalL, SV.scal, SV.scalL, Ob.scal, PV.isCell, pure', resO]
    exact finA_val (by simp [retA, rvA, mkE_cons, mk_nil, mkO_cons, mkO_nil, loadA, SV.tr, SV.trL, nmF, rn_nil, rn_cons1, rn_cons2, plainOb, SV.refsL, SV.refs, Ob.refs, X, F, List.range_succ, mkO, setO_mk]) (by simp [SV.tr, SV.trL])
theorem s_s_BestSplit {P : Program} (hm : P.follows .mixedOrders = true) {Γ : Gam} (hΓ : GS P Γ) {n : FuncId} {f_l4Counts : FuncId} {f_l4Told : FuncId} {f_l4Best : FuncId} {f_l1Own : FuncId} (is : Is P n (a_s_BestSplit f_l4Counts f_l4Told f_l4Best f_l1Own)) (h_l4Counts : Γ f_l4Counts = c_AreCounts) (h_l4Told : Γ f_l4Told = c_isTold) (h_l4Best : Γ f_l4Best = c_l4Best) (h_l1Own : Γ f_l1Own = c_Clone)  : Says P n c_s_BestSplit := by
  refine Says.pure fun args r fs h => ?_
  split at h
  case h_2 => cases h
  rename_i c_
  split at h
  case isFalse => cases h
  rename_i hc
  obtain ⟨hc_, hc⟩ := hc
  obtain ⟨c, rfl⟩ := isI_out hc_
  simp only [ofI_ints, ofBo_bools, ofAs_asks, Option.some.injEq, Prod.mk.injEq] at h hc
  obtain ⟨rfl, rfl⟩ := h
  cases h1 : okC c with
  | false =>
    refine is.go hm hΓ k_s_BestSplit o_s_BestSplit (by simp [a_s_BestSplit]) ?_
    simp only [a_s_BestSplit, h_l4Counts, c_AreCounts, h_l4Told, c_isTold, h_l4Best, c_l4Best, h_l1Own, c_Clone, hc, h1, Bool.false_and, Bool.false_eq_true, List.zipIdx_cons, List.zipIdx_nil, ↓SP, SQ, Gam.add, stepM, callC, argC, lendO, nmBy, nmC, likeL, likeB, plainOb, offs, exL, X, F, trP, trO, stepD, stepW, newA, SV.tr, SV.trL, fz, allP, Ob.tr, loadA, cellsA, SV.cells, binA, binI, eqOut, isSl, isPt, natOf, callee, snap, SV.refsL, SV.refs, thaw, fzAll, loA, hiA, elemOf, partsA, buildA, putCells, ↓reduceIte, reduceCtorEq, okCell, Nat.reduceAdd, Nat.reduceEqDiff, Nat.reduceSub, Nat.reduceMul, Nat.reduceLeDiff, Nat.reduceLT, Nat.reduceBEq, PV.scal, PV.scalL, SV.scal, SV.scalL, Ob.scal, PV.isCell, pure', resO]
    refine finA_gen [11] trivial (by simp [retA, rvA, mkE_cons, mk_nil, mkO_cons, mkO_nil, loadA, SV.tr, SV.trL, nmF, rn_nil, rn_cons1, rn_cons2, plainOb, SV.refsL, SV.refs, Ob.refs, X, F, List.range_succ, mkO, setO_mk]; rfl) ?_ ?_ ?_ ?_ ?_ ?_ ?_ <;> simp [ints, retA, rvA, mkE_cons, mk_nil, mkO_cons, mkO_nil, loadA, SV.tr, SV.trL, nmF, rn_nil, rn_cons1, rn_cons2, plainOb, SV.refsL, SV.refs, Ob.refs, X, F, List.range_succ, mkO, setO_mk]
  | true =>
    obtain ⟨⟨l1, l3⟩, h8, _⟩ := okC_out h1
    cases h2 : told c with
    | true =>
      refine is.go hm hΓ k_s_BestSplit o_s_BestSplit (by simp [a_s_BestSplit]) ?_
      simp only [a_s_BestSplit, h_l4Counts, c_AreCounts, h_l4Told, c_isTold, h_l4Best, c_l4Best, h_l1Own, c_Clone, hc, h1, h2, l3, h8, Bool.not_true, Bool.and_false, Bool.false_eq_true, List.zipIdx_cons, List.zipIdx_nil, ↓SP, SQ, Gam.add, stepM, callC, argC, lendO, nmBy, nmC, likeL, likeB, plainOb, offs, exL, X, F, trP, trO, stepD, stepW, newA, SV.tr, SV.trL, fz, allP, Ob.tr, loadA, cellsA, SV.cells, binA, binI, eqOut, isSl, isPt, natOf, callee, snap, SV.refsL, SV.refs, thaw, fzAll, loA, hiA, elemOf, partsA, buildA, putCells, ↓reduceIte, reduceCtorEq, okCell, Nat.reduceAdd, Nat.reduceEqDiff, Nat.reduceSub, Nat.reduceMul, Nat.reduceLeDiff, Nat.reduceLT, Nat.reduceBEq, PV.scal, PV.scalL, SV.scal, SV.scalL, Ob.scal, PV.isCell, pure', resO]
      refine finA_gen [11] trivial (by simp [retA, rvA, mkE_cons, mk_nil, mkO_cons, mkO_nil, loadA, SV.tr, SV.trL, nmF, rn_nil, rn_cons1, rn_cons2, plainOb, SV.refsL, SV.refs, Ob.refs, X, F, List.range_succ, mkO, setO_mk]; rfl) ?_ ?_ ?_ ?_ ?_ ?_ ?_ <;> simp [ints, retA, rvA, mkE_cons, mk_nil, mkO_cons, mkO_nil, loadA, SV.tr, SV.trL, nmF, rn_nil, rn_cons1, rn_cons2, plainOb, SV.refsL, SV.refs, Ob.refs, X, F, List.range_succ, mkO, setO_mk]
    | false =>
      have hB := HB.of h1 h2
      have hln := hB.len
      have hg := sls_get hln
      have hgd : (beS true c).getD 0 [] = hdB c := rfl
      rw [hgd] at hg
      have hl := spl_len hB.mem
      have hll : (hdB c).length ≤ 1100000 := by omega
      refine is.go hm hΓ k_s_BestSplit o_s_BestSplit (by simp [a_s_BestSplit]) ?_
      simp only [a_s_BestSplit, h_l4Counts, c_AreCounts, h_l4Told, c_isTold, h_l4Best, c_l4Best, h_l1Own, c_Clone, hc, h1, h2, l3, h8, hln, hg, hll, sls_len, Bool.not_false, Bool.and_self, Int.le_refl, Int.reduceToNat, List.zipIdx_cons, List.zipIdx_nil, ↓SP, SQ, Gam.add, stepM, callC, argC, lendO, nmBy, nmC, likeL, likeB, plainOb, offs, exL, X, F, trP, trO, stepD, stepW, newA, SV.tr, SV.trL, fz, allP, Ob.tr, loadA, cellsA, SV.cells, binA, binI, eqOut, isSl, isPt, natOf, callee, snap, SV.refsL, SV.refs, thaw, fzAll, loA, hiA, elemOf, partsA, buildA, putCells, ↓reduceIte, reduceCtorEq, okCell, Nat.reduceAdd, Nat.reduceEqDiff, Nat.reduceSub, Nat.reduceMul, Nat.reduceLeDiff, Nat.reduceLT, Nat.reduceBEq, PV.scal, PV.scalL, SV.scal, SV.scalL, Ob.scal, PV.isCell, pure', resO]
      exact finA_val (by simp [retA, rvA, mkE_cons, mk_nil, mkO_cons, mkO_nil, loadA, SV.tr, SV.trL, nmF, rn_nil, rn_cons1, rn_cons2, plainOb, SV.refsL, SV.refs, Ob.refs, X, F, List.range_succ, mkO, setO_mk]) (by simp [SV.tr, SV.trL])
def a_OneWaySplit (f_isUntold : FuncId) (f_neederOf : FuncId) (f_oneWay : FuncId) (f_nBest : FuncId) : AFn := ⟨1, 
  .seq (.reg [⟨some 2, none, .d (.mv (.c (.nilsl)))⟩,
    ⟨some 3, none, .d (.mv (.c (.bool false)))⟩])
  (.seq (.seq (.reg [⟨some 4, none, .d (.mv (.t 0))⟩,
    ⟨some 5, none, .d (.call (.f f_isUntold) [(.t 4)])⟩,
    ⟨some 6, none, .d (.not (.t 5))⟩])
  (.cond (.t 6) (.seq (.reg [⟨some 2, none, .d (.mv (.c (.nilsl)))⟩,
     ⟨some 3, none, .d (.mv (.c (.bool false)))⟩])
   (.ret)) (.skip)))
  (.seq (.reg [⟨some 7, none, .d (.call (.f f_neederOf) [(.f f_oneWay)])⟩,
    ⟨some 8, none, .d (.mv (.t 0))⟩,
    ⟨some 9, none, .d (.call (.f f_nBest) [(.t 7), (.t 8)])⟩,
    ⟨some 10, none, .d (.ia 1 (.t 9) (.c (.int .i64 0)))⟩,
    ⟨some 11, none, .d (.load false 1 (.t 10))⟩,
    ⟨some 2, none, .d (.mv (.t 11))⟩,
    ⟨some 3, none, .d (.mv (.c (.bool true)))⟩])
  (.ret))), [.tmp 2, .tmp 3]⟩
def n_OneWaySplit : Nat → Option Ann := fun _ => none
abbrev k_OneWaySplit : List Nat := [0, 2, 3, 6]
abbrev o_OneWaySplit : List Nat := []
def a_s_OneWaySplit (f_l4Counts : FuncId) (f_l4Told : FuncId) (f_l10Needs : FuncId) (f_l4Key : FuncId) (f_l10Best : FuncId) (f_l1Own : FuncId) : AFn := ⟨1, 
  .seq (.reg [⟨some 2, none, .d (.mv (.c (.nilsl)))⟩,
    ⟨some 3, none, .d (.mv (.c (.bool false)))⟩])
  (.seq (.seq (.reg [⟨some 5, none, .d (.mv (.t 0))⟩,
    ⟨some 6, none, .d (.call (.f f_l4Counts) [(.t 5)])⟩,
    ⟨some 7, none, .d (.not (.t 6))⟩,
    ⟨some 8, none, .d (.mv (.t 7))⟩,
    ⟨some 9, some (8, false), .d (.mv (.t 0))⟩,
    ⟨some 10, some (8, false), .d (.call (.f f_l4Told) [(.t 9)])⟩,
    ⟨some 11, none, .d (.pick (.t 8) (.c (.bool true)) (.t 10))⟩])
  (.cond (.t 11) (.seq (.reg [⟨some 12, none, .w (.bslice 1 [] [])⟩,
     ⟨some 2, none, .d (.mv (.t 12))⟩,
     ⟨some 3, none, .d (.mv (.c (.bool false)))⟩])
   (.ret)) (.skip)))
  (.seq (.reg [⟨some 13, none, .d (.mv (.t 0))⟩,
    ⟨some 14, none, .d (.len (.t 13))⟩,
    ⟨some 15, none, .d (.call (.f f_l10Needs) [(.t 14)])⟩,
    ⟨some 4, none, .d (.mv (.t 15))⟩])
  (.seq (.reg [⟨some 16, none, .d (.mv (.t 0))⟩,
    ⟨some 17, none, .d (.mv (.t 4))⟩,
    ⟨some 18, none, .d (.mv (.t 4))⟩,
    ⟨some 19, none, .d (.mv (.t 0))⟩,
    ⟨some 20, none, .d (.call (.f f_l4Key) [(.t 19)])⟩,
    ⟨some 21, none, .d (.ia 1 (.t 18) (.t 20))⟩,
    ⟨some 22, none, .d (.load false 1 (.t 21))⟩,
    ⟨some 23, none, .d (.call (.f f_l10Best) [(.t 16), (.t 17), (.t 22)])⟩,
    ⟨some 24, none, .d (.call (.f f_l1Own) [(.t 23)])⟩,
    ⟨some 2, none, .d (.mv (.t 24))⟩,
    ⟨some 3, none, .d (.mv (.c (.bool true)))⟩])
  (.ret)))), [.tmp 2, .tmp 3]⟩
def n_s_OneWaySplit : Nat → Option Ann := fun _ => none
abbrev k_s_OneWaySplit : List Nat := [0, 2, 3, 4, 11]
abbrev o_s_OneWaySplit : List Nat := [12]
def c_OneWaySplit : Con := pure' fun
  | [.p (.sl 1 c_)] => if isI c_ = true ∧ ((ofI c_).length ≤ 1100000) then some (.tp [.p (if (okC (ofI c_) && !told (ofI c_)) = true then .sl 1 (ints (hdS (ofI c_))) else .nilsl), .p (.bool (okC (ofI c_) && !told (ofI c_)))], []) else none
  | _ => none
def c_s_OneWaySplit : Con := pure' fun
  | [.p (.sl 1 c_)] => if isI c_ = true ∧ ((ofI c_).length ≤ 1100000) then some (.tp [if (okC (ofI c_) && !told (ofI c_)) = true then .p (.sl 1 (ints (hdS (ofI c_)))) else .ar 2000000, .p (.bool (okC (ofI c_) && !told (ofI c_)))], if (okC (ofI c_) && !told (ofI c_)) = true then [] else [.arr 1 []]) else none
  | _ => none
theorem s_OneWaySplit {P : Program} (hm : P.follows .mixedOrders = true) {Γ : Gam} (hΓ : GS P Γ) {n : FuncId} {f_isUntold : FuncId} {f_neederOf : FuncId} {f_oneWay : FuncId} {f_nBest : FuncId} (is : Is P n (a_OneWaySplit f_isUntold f_neederOf f_oneWay f_nBest)) (h_isUntold : Γ f_isUntold = c_isUntold) {Γ1 Γ2 : Gam} (h_neederOf : Γ f_neederOf = c_neederOf Γ1) (h_oneWay : Γ1 f_oneWay = c_oneWay) (h_nBest : Γ f_nBest = c_nBest Γ2) (h_oneWay2 : Γ2 f_oneWay = c_oneWay) : Says P n c_OneWaySplit := by
  refine Says.pure fun args r fs h => ?_
  split at h
  case h_2 => cases h
  rename_i c_
  split at h
  case isFalse => cases h
  rename_i hc
  obtain ⟨hc_, hc⟩ := hc
  obtain ⟨c, rfl⟩ := isI_out hc_
  simp only [ofI_ints, ofBo_bools, ofAs_asks, Option.some.injEq, Prod.mk.injEq] at h hc
  obtain ⟨rfl, rfl⟩ := h
  cases h1 : (okC c && !told c) with
  | false =>
    refine is.go hm hΓ k_OneWaySplit o_OneWaySplit (by simp [a_OneWaySplit]) ?_
    simp only [a_OneWaySplit, h_isUntold, c_isUntold, hc, h1, Bool.false_eq_true, List.zipIdx_cons, List.zipIdx_nil, ↓SP, SQ, Gam.add, stepM, callC, argC, lendO, nmBy, nmC, likeL, likeB, plainOb, offs, exL, X, F, trP, trO, stepD, stepW, newA, SV.tr, SV.trL, fz, allP, Ob.tr, loadA, cellsA, SV.cells, binA, binI, eqOut, isSl, isPt, natOf, callee, snap, SV.refsL, SV.refs, thaw, fzAll, loA, hiA, elemOf, partsA, buildA, putCells, ↓reduceIte, reduceCtorEq, okCell, Nat.reduceAdd, Nat.reduceEqDiff, Nat.reduceSub, Nat.reduceMul, Nat.reduceLeDiff, Nat.reduceLT, Nat.reduceBEq, PV.scal, PV.scalL, SV.scal, SV.scalL, Ob.scal, PV.isCell, pure', resO]
    exact finA_val (by simp [retA, rvA, mkE_cons, mk_nil, mkO_cons, mkO_nil, loadA, SV.tr, SV.trL, nmF, rn_nil, rn_cons1, rn_cons2, plainOb, SV.refsL, SV.refs, Ob.refs, X, F, List.range_succ, mkO, setO_mk]) (by simp [SV.tr, SV.trL])
  | true =>
    have hok : okC c = true := by simp only [Bool.and_eq_true] at h1; exact h1.1
    have hu : told c = false := by simp only [Bool.and_eq_true, Bool.not_eq_true'] at h1; exact h1.2
    have hne := neederOf_one h_oneWay
    have hE := okE_nES false
    have hr : isRule Γ2 f_oneWay false := by simpa [isRule] using h_oneWay2
    have hbl := beL_nES hr hok hu
    have hba := be_any hr hok hu
    have htk := sls_app_take (beS false c) (List.replicate ((splL c).length - (beS false c).length) .nilsl)
    have hln := (HD.of hok hu).len
    have hg := sls_get hln
    have hgd : (beS false c).getD 0 [] = hdS c := rfl
    rw [hgd] at hg
    refine is.go hm hΓ k_OneWaySplit o_OneWaySplit (by simp [a_OneWaySplit]) ?_
    simp only [a_OneWaySplit, h_isUntold, c_isUntold, hc, h1, hok, hu, h_neederOf, hne, h_nBest, c_nBest, h_oneWay2, or_true, hE, hok, hbl, hba, htk, hln, hg, sls_len, Nat.sub_zero, List.drop_zero, isI_ints, ofI_ints, ints_len, Bool.not_false, Bool.not_true, Bool.false_eq_true, Int.le_refl, Int.reduceToNat, List.zipIdx_cons, List.zipIdx_nil, ↓SP, SQ, Gam.add, stepM, callC, argC, lendO, nmBy, nmC, likeL, likeB, plainOb, offs, exL, X, F, trP, trO, stepD, stepW, newA, SV.tr, SV.trL, fz, allP, Ob.tr, loadA, cellsA, SV.cells, binA, binI, eqOut, isSl, isPt, natOf, callee, snap, SV.refsL, SV.refs, thaw, fzAll, loA, hiA, elemOf, partsA, buildA, putCells, ↓reduceIte, reduceCtorEq, okCell, Nat.reduceAdd, Nat.reduceEqDiff, Nat.reduceSub, Nat.reduceMul, Nat.reduceLeDiff, Nat.reduceLT, Nat.reduceBEq, PV.scal, PV.scalL, SV.scal, SV.scalL, Ob.scal, PV.isCell, pure', resO]
    exact finA_val (by simp [retA, rvA, mkE_cons, mk_nil, mkO_cons, mkO_nil, loadA, SV.tr, SV.trL, nmF, rn_nil, rn_cons1, rn_cons2, plainOb, SV.refsL, SV.refs, Ob.refs, X, F, List.range_succ, mkO, setO_mk]) (by simp [SV.tr, SV.trL])
theorem s_s_OneWaySplit {P : Program} (hm : P.follows .mixedOrders = true) {Γ : Gam} (hΓ : GS P Γ) {n : FuncId} {f_l4Counts : FuncId} {f_l4Told : FuncId} {f_l10Needs : FuncId} {f_l4Key : FuncId} {f_l10Best : FuncId} {f_l1Own : FuncId} (is : Is P n (a_s_OneWaySplit f_l4Counts f_l4Told f_l10Needs f_l4Key f_l10Best f_l1Own)) (h_l4Counts : Γ f_l4Counts = c_AreCounts) (h_l4Told : Γ f_l4Told = c_isTold) (h_l10Needs : Γ f_l10Needs = c_l10Needs) (h_l4Key : Γ f_l4Key = c_l4Key) (h_l10Best : Γ f_l10Best = c_l10Best) (h_l1Own : Γ f_l1Own = c_Clone)  : Says P n c_s_OneWaySplit := by
  refine Says.pure fun args r fs h => ?_
  split at h
  case h_2 => cases h
  rename_i c_
  split at h
  case isFalse => cases h
  rename_i hc
  obtain ⟨hc_, hc⟩ := hc
  obtain ⟨c, rfl⟩ := isI_out hc_
  simp only [ofI_ints, ofBo_bools, ofAs_asks, Option.some.injEq, Prod.mk.injEq] at h hc
  obtain ⟨rfl, rfl⟩ := h
  cases h1 : okC c with
  | false =>
    refine is.go hm hΓ k_s_OneWaySplit o_s_OneWaySplit (by simp [a_s_OneWaySplit]) ?_
    simp only [a_s_OneWaySplit, h_l4Counts, c_AreCounts, h_l4Told, c_isTold, h_l10Needs, c_l10Needs, h_l4Key, c_l4Key, h_l10Best, c_l10Best, h_l1Own, c_Clone, hc, h1, Bool.false_and, Bool.false_eq_true, List.zipIdx_cons, List.zipIdx_nil, ↓SP, SQ, Gam.add, stepM, callC, argC, lendO, nmBy, nmC, likeL, likeB, plainOb, offs, exL, X, F, trP, trO, stepD, stepW, newA, SV.tr, SV.trL, fz, allP, Ob.tr, loadA, cellsA, SV.cells, binA, binI, eqOut, isSl, isPt, natOf, callee, snap, SV.refsL, SV.refs, thaw, fzAll, loA, hiA, elemOf, partsA, buildA, putCells, ↓reduceIte, reduceCtorEq, okCell, Nat.reduceAdd, Nat.reduceEqDiff, Nat.reduceSub, Nat.reduceMul, Nat.reduceLeDiff, Nat.reduceLT, Nat.reduceBEq, PV.scal, PV.scalL, SV.scal, SV.scalL, Ob.scal, PV.isCell, pure', resO]
    refine finA_gen [12] trivial (by simp [retA, rvA, mkE_cons, mk_nil, mkO_cons, mkO_nil, loadA, SV.tr, SV.trL, nmF, rn_nil, rn_cons1, rn_cons2, plainOb, SV.refsL, SV.refs, Ob.refs, X, F, List.range_succ, mkO, setO_mk]; rfl) ?_ ?_ ?_ ?_ ?_ ?_ ?_ <;> simp [ints, retA, rvA, mkE_cons, mk_nil, mkO_cons, mkO_nil, loadA, SV.tr, SV.trL, nmF, rn_nil, rn_cons1, rn_cons2, plainOb, SV.refsL, SV.refs, Ob.refs, X, F, List.range_succ, mkO, setO_mk]
  | true =>
    obtain ⟨⟨l1, l3⟩, h8, _⟩ := okC_out h1
    cases h2 : told c with
    | true =>
      refine is.go hm hΓ k_s_OneWaySplit o_s_OneWaySplit (by simp [a_s_OneWaySplit]) ?_
      simp only [a_s_OneWaySplit, h_l4Counts, c_AreCounts, h_l4Told, c_isTold, h_l10Needs, c_l10Needs, h_l4Key, c_l4Key, h_l10Best, c_l10Best, h_l1Own, c_Clone, hc, h1, h2, l3, h8, Bool.not_true, Bool.and_false, Bool.false_eq_true, List.zipIdx_cons, List.zipIdx_nil, ↓SP, SQ, Gam.add, stepM, callC, argC, lendO, nmBy, nmC, likeL, likeB, plainOb, offs, exL, X, F, trP, trO, stepD, stepW, newA, SV.tr, SV.trL, fz, allP, Ob.tr, loadA, cellsA, SV.cells, binA, binI, eqOut, isSl, isPt, natOf, callee, snap, SV.refsL, SV.refs, thaw, fzAll, loA, hiA, elemOf, partsA, buildA, putCells, ↓reduceIte, reduceCtorEq, okCell, Nat.reduceAdd, Nat.reduceEqDiff, Nat.reduceSub, Nat.reduceMul, Nat.reduceLeDiff, Nat.reduceLT, Nat.reduceBEq, PV.scal, PV.scalL, SV.scal, SV.scalL, Ob.scal, PV.isCell, pure', resO]
      refine finA_gen [12] trivial (by simp [retA, rvA, mkE_cons, mk_nil, mkO_cons, mkO_nil, loadA, SV.tr, SV.trL, nmF, rn_nil, rn_cons1, rn_cons2, plainOb, SV.refsL, SV.refs, Ob.refs, X, F, List.range_succ, mkO, setO_mk]; rfl) ?_ ?_ ?_ ?_ ?_ ?_ ?_ <;> simp [ints, retA, rvA, mkE_cons, mk_nil, mkO_cons, mkO_nil, loadA, SV.tr, SV.trL, nmF, rn_nil, rn_cons1, rn_cons2, plainOb, SV.refsL, SV.refs, Ob.refs, X, F, List.range_succ, mkO, setO_mk]
    | false =>
      have hD := HD.of h1 h2
      have hfnd := hD.fnd
      have hokw := okw_of h1 h2
      have hl := spl_len hD.mem
      have hll : (hdS c).length ≤ 1100000 := by omega
      have l1' : (1 : Int) ≤ c.length := by omega
      have l3' : (c.length : Int) ≤ 3 := by omega
      have htl := tabK_len (ntT tabO) c.length 6
      obtain ⟨k0, k1⟩ := keyN_bd (p := c.length) rfl h8
      have hkk : (keyL c).toNat = keyN c := rfl
      have hg := ints_get (l := tabK (ntT tabO) c.length 6) (i := keyN c) (by rw [tabK_len]; exact k1)
      have htn := (tab_nd h1).2
      rw [htn] at hg
      refine is.go hm hΓ k_s_OneWaySplit o_s_OneWaySplit (by simp [a_s_OneWaySplit]) ?_
      simp only [a_s_OneWaySplit, h_l4Counts, c_AreCounts, h_l4Told, c_isTold, h_l10Needs, c_l10Needs, h_l4Key, c_l4Key, h_l10Best, c_l10Best, h_l1Own, c_Clone, hc, h1, h2, l3, h8, l1', l3', htl, k0, hkk, hg, hokw, hfnd, hll, Int.toNat_natCast, isI_ints, ofI_ints, ints_len, Bool.not_false, Bool.and_self, List.zipIdx_cons, List.zipIdx_nil, ↓SP, SQ, Gam.add, stepM, callC, argC, lendO, nmBy, nmC, likeL, likeB, plainOb, offs, exL, X, F, trP, trO, stepD, stepW, newA, SV.tr, SV.trL, fz, allP, Ob.tr, loadA, cellsA, SV.cells, binA, binI, eqOut, isSl, isPt, natOf, callee, snap, SV.refsL, SV.refs, thaw, fzAll, loA, hiA, elemOf, partsA, buildA, putCells, ↓reduceIte, reduceCtorEq, okCell, Nat.reduceAdd, Nat.reduceEqDiff, Nat.reduceSub, Nat.reduceMul, Nat.reduceLeDiff, Nat.reduceLT, Nat.reduceBEq, PV.scal, PV.scalL, SV.scal, SV.scalL, Ob.scal, PV.isCell, pure', resO]
      exact finA_val (by simp [retA, rvA, mkE_cons, mk_nil, mkO_cons, mkO_nil, loadA, SV.tr, SV.trL, nmF, rn_nil, rn_cons1, rn_cons2, plainOb, SV.refsL, SV.refs, Ob.refs, X, F, List.range_succ, mkO, setO_mk]) (by simp [SV.tr, SV.trL])
end Go.Proofs.Ytmncbkkpchmjhaa.Pam
