/- A part of the proof that stands in this folder: a small machine whose steps are shown to be the steps of the model, or walks of functions by it. No condition of its own. -/
import Derived.Test.YtihpfhdkjlphhaaGfOF
set_option linter.unusedVariables false
set_option linter.unusedSimpArgs false
namespace Go.Proofs.Ytihpfhdkjlphhaa.Pam
open Go
theorem slU_cells {v : PV} {l : List Int} (h : slU v = some l) : v.cells = [v] := by
  rcases (slU_out h).1 with rfl | ⟨rfl, rfl⟩ <;> rfl
theorem slU_isCell {v : PV} {l : List Int} (h : slU v = some l) : v.isCell = true := by
  rcases (slU_out h).1 with rfl | ⟨rfl, rfl⟩ <;> rfl
theorem cnR_b {l : List Int} (hl : ∀ x ∈ l, 0 ≤ x ∧ x ≤ 255) {c : Cu} (hc : CuA c 0) : (cnR l c).1.length ≤ 6 ∧ CuA (cnR l c).2 10 ∧ ∀ x ∈ (cnR l c).1, -1 ≤ x ∧ x ≤ 9 := by
  have ha1 := hc.pk l 9
  have ha2 := ha1.pk l 7
  have hL : 0 ≤ amV l [4, 6, 8, 3, 7, 2, 5, 1, 0] c ∧ amV l [4, 6, 8, 3, 7, 2, 5, 1, 0] c ≤ 8 := (by decide : ∀ x ∈ ([4, 6, 8, 3, 7, 2, 5, 1, 0] : List Int), 0 ≤ x ∧ x ≤ 8) _ (amV_mem hl hc.1 (by decide))
  have hM : 1 ≤ amV l [2, 2, 1, 3, 2, 3, 1] (pkC l 9 c) ∧ amV l [2, 2, 1, 3, 2, 3, 1] (pkC l 9 c) ≤ 3 := (by decide : ∀ x ∈ ([2, 2, 1, 3, 2, 3, 1] : List Int), 1 ≤ x ∧ x ≤ 3) _ (amV_mem hl ha1.1 (by decide))
  have hcn := cnS_b hl hL.1 ha2 (amV l [2, 2, 1, 3, 2, 3, 1] (pkC l 9 c)).toNat
  unfold cnR cnE
  generalize cnS l (amV l [4, 6, 8, 3, 7, 2, 5, 1, 0] c) (pkC l 7 (pkC l 9 c)) (amV l [2, 2, 1, 3, 2, 3, 1] (pkC l 9 c)).toNat = S at *
  obtain ⟨h1, h2, h3, h4, h5⟩ := hcn
  have h6 : CuA S.2.2 5 := h4.mono (by omega)
  have h7 := h6.pk l 40
  have h5' : ∀ x ∈ S.1, -1 ≤ x ∧ x ≤ 9 := fun x hx => by have := h5 x hx; omega
  split
  · exact ⟨by simp, h7.mono (by omega), by simp⟩
  · split
    · refine ⟨by simp only [List.length_set]; omega, (h7.pk l 3).mono (by omega), fun x hx => ?_⟩
      have hv : -1 ≤ amV l [-1, 9, 8] (pkC l 40 S.2.2) ∧ amV l [-1, 9, 8] (pkC l 40 S.2.2) ≤ 9 := (by decide : ∀ x ∈ ([-1, 9, 8] : List Int), -1 ≤ x ∧ x ≤ 9) _ (amV_mem hl h7.1 (by decide))
      rcases List.mem_or_eq_of_mem_set hx with hx | rfl
      · exact h5' x hx
      · exact hv
    · split
      · refine ⟨by simp only [List.length_append, List.length_cons, List.length_nil]; omega, h7.mono (by omega), fun x hx => ?_⟩
        simp only [List.mem_append, List.mem_cons, List.not_mem_nil, or_false] at hx
        rcases hx with hx | hx
        · exact h5' x hx
        · rcases hx with rfl | rfl | rfl <;> omega
      · exact ⟨by simp only; omega, h7.mono (by omega), h5'⟩
theorem spR_b {l : List Int} (hl : ∀ x ∈ l, 0 ≤ x ∧ x ≤ 255) {c : Cu} {b : Int} (hc : CuA c b) (cs : List Int) (hcs : ∀ x ∈ cs, -1 ≤ x ∧ x ≤ 9) : (spR l cs c).1.length ≤ cs.length + 1 ∧ ∀ x ∈ (spR l cs c).1, -1 ≤ x ∧ x ≤ 100 := by
  obtain ⟨h1, h4, h5⟩ := spS_b hl cs (fun x hx => by have := hcs x hx; omega) hc cs.length (Nat.le_refl _)
  unfold spR
  generalize spS l cs c cs.length = S at *
  have h5' : ∀ x ∈ S.1, -1 ≤ x ∧ x ≤ 100 := fun x hx => by have := h5 x hx; omega
  have hA : (spA l cs S).1.length = cs.length ∧ ∀ x ∈ (spA l cs S).1, -1 ≤ x ∧ x ≤ 100 := by
    unfold spA
    split
    · rename_i hz
      split
      · refine ⟨by simp only [List.length_set]; exact h1, fun x hx => ?_⟩
        have h7 := h4.pk l 24
        have hm := amV_mem hl (xs := [-1, cs.getD 0 0 + 1]) h7.1 (by simp)
        have hx0 := hcs (cs.getD 0 0) (by rw [show cs.getD 0 0 = cs[0] by simp [show 0 < cs.length by omega]]; exact List.getElem_mem _)
        rcases List.mem_or_eq_of_mem_set hx with hx | rfl
        · exact h5' x hx
        · simp only [List.mem_cons, List.not_mem_nil, or_false] at hm
          rcases hm with hm | hm <;> rw [hm] <;> omega
      · exact ⟨h1, h5'⟩
    · exact ⟨h1, h5'⟩
  unfold spB
  simp only
  split
  · refine ⟨by simp only [List.length_append, List.length_cons, List.length_nil]; omega, fun x hx => ?_⟩
    simp only [List.mem_append, List.mem_singleton] at hx
    rcases hx with hx | rfl
    · exact hA.2 x hx
    · omega
  · exact ⟨by omega, hA.2⟩
theorem cu0 (b : Int) (hb : 0 ≤ b) : CuA (0, 0) b := ⟨Int.le_refl _, hb⟩
def a_DrawYesCounts (f_counts : FuncId) (f_split : FuncId) : AFn := ⟨1, 
  .seq (.reg [⟨some 2, none, .d (.mv (.c (.nilsl)))⟩,
    ⟨some 3, none, .d (.mv (.c (.nilsl)))⟩])
  (.seq (.reg [⟨some 6, none, .d (.mv (.t 0))⟩,
    ⟨some 7, none, .d (.build [.nilsl, .int .i64 0, .int .u64 0] [(0, 1, (.t 6))])⟩,
    ⟨some 8, none, .w (.box 3 (.t 7))⟩,
    ⟨some 4, none, .d (.mv (.t 8))⟩])
  (.seq (.reg [⟨some 9, none, .d (.mv (.t 4))⟩,
    ⟨some 10, none, .w (.callL (.f f_counts) [(.t 9)] [8] 1 false)⟩,
    ⟨some 5, none, .d (.mv (.t 10))⟩])
  (.seq (.reg [⟨some 11, none, .d (.mv (.t 5))⟩,
    ⟨some 12, none, .d (.mv (.t 4))⟩,
    ⟨some 13, none, .d (.mv (.t 5))⟩,
    ⟨some 14, none, .w (.callL (.f f_split) [(.t 12), (.t 13)] [8] 1 true)⟩,
    ⟨some 2, none, .d (.mv (.t 11))⟩,
    ⟨some 3, none, .d (.mv (.t 14))⟩])
  (.ret)))), [.tmp 2, .tmp 3]⟩
def n_DrawYesCounts : Nat → Option Ann := fun d => if d = 10 then some ⟨[8], 1, false⟩ else if d = 14 then some ⟨[8], 1, true⟩ else none
abbrev k_DrawYesCounts : List Nat := [0, 2, 3, 4, 5]
abbrev o_DrawYesCounts : List Nat := [8, 10, 14]
def c_DrawYesCounts : Con := pure' fun
  | [.p v] => match slU v with
    | some l => some (.tp [.p (.sl 1 (ints (cnR l (0, 0)).1)), .ar 2000000], [.arr 1 (ints (spR l (cnR l (0, 0)).1 (cnR l (0, 0)).2).1)])
    | none => none
  | _ => none
theorem s_DrawYesCounts {P : Program} (hm : P.follows .mixedOrders = true) {Γ : Gam} (hΓ : GS P Γ) {n : FuncId} {f_counts : FuncId} {f_split : FuncId} (is : Is P n (a_DrawYesCounts f_counts f_split)) (h_counts : Γ f_counts = c_counts) (h_split : Γ f_split = c_split)  : Says P n c_DrawYesCounts := by
  refine Says.pure fun args r fs h => ?_
  split at h
  case h_2 => cases h
  rename_i v
  split at h
  case h_2 => cases h
  rename_i l hv
  simp only [Option.some.injEq, Prod.mk.injEq] at h
  obtain ⟨rfl, rfl⟩ := h
  have hl := (slU_out hv).2
  have hvc := slU_cells hv
  have hvi := slU_isCell hv
  obtain ⟨b1, b2, b3⟩ := cnR_b hl (cu0 0 (by omega))
  have r1 := b2.1
  have r2 : (cnR l (0, 0)).2.1 ≤ 500 := by have := b2.2; omega
  have hb1 : (cnR l (0, 0)).1.length ≤ 50 := by omega
  have hb2 : ∀ x ∈ (cnR l (0, 0)).1, -100 ≤ x ∧ x ≤ 100 := fun x hx => by have := b3 x hx; omega
  have hb3 := eq_true hb2
  refine is.go hm hΓ k_DrawYesCounts o_DrawYesCounts (by simp [a_DrawYesCounts]) ?_
  simp only [a_DrawYesCounts, h_counts, c_counts, h_split, c_split, hv, hvc, hvi, r1, r2, hb1, hb3, cuEta, Int.le_refl, (by decide : (0 : Int) ≤ 900), List.zipIdx_cons, List.zipIdx_nil, ↓SP, SQ, Gam.add, stepM, callC, argC, lendO, nmBy, nmC, likeL, likeB, plainOb, offs, exL, X, F, trP, trO, stepD, stepW, newA, SV.tr, SV.trL, fz, allP, Ob.tr, loadA, cellsA, SV.cells, binA, binI, eqOut, isSl, isPt, natOf, callee, snap, SV.refsL, SV.refs, thaw, fzAll, loA, hiA, elemOf, partsA, buildA, putCells, ↓reduceIte, reduceCtorEq, okCell, Nat.reduceAdd, Nat.reduceEqDiff, Nat.reduceSub, Nat.reduceMul, Nat.reduceLeDiff, Nat.reduceLT, Nat.reduceBEq, PV.scal, PV.scalL, SV.scal, SV.scalL, Ob.scal, PV.isCell, pure', resO]
  refine finA_gen [14] trivial (by simp [retA, rvA, mkE_cons, mk_nil, mkO_cons, mkO_nil, loadA, SV.tr, SV.trL, nmF, rn_nil, rn_cons1, rn_cons2, plainOb, SV.refsL, SV.refs, Ob.refs, X, F, List.range_succ, mkO, setO_mk]; rfl) ?_ ?_ ?_ ?_ ?_ ?_ ?_ <;> simp [hvc, retA, rvA, mkE_cons, mk_nil, mkO_cons, mkO_nil, loadA, SV.tr, SV.trL, nmF, rn_nil, rn_cons1, rn_cons2, plainOb, SV.refsL, SV.refs, Ob.refs, X, F, List.range_succ, mkO, setO_mk]
def a_DrawSplitNeed (f_DrawYesCounts : FuncId) : AFn := ⟨1, 
  .seq (.reg [⟨some 2, none, .d (.mv (.c (.nilsl)))⟩,
    ⟨some 3, none, .d (.mv (.c (.nilsl)))⟩])
  (.seq (.reg [⟨some 4, none, .d (.mv (.t 0))⟩,
    ⟨some 5, none, .d (.call (.f f_DrawYesCounts) [(.t 4)])⟩,
    ⟨some 6, none, .d (.extract (.t 5) 0)⟩,
    ⟨some 7, none, .d (.extract (.t 5) 1)⟩,
    ⟨some 2, none, .d (.mv (.t 6))⟩,
    ⟨some 3, none, .d (.mv (.t 7))⟩])
  (.ret)), [.tmp 2, .tmp 3]⟩
def n_DrawSplitNeed : Nat → Option Ann := fun _ => none
abbrev k_DrawSplitNeed : List Nat := [0, 2, 3]
abbrev o_DrawSplitNeed : List Nat := []
def c_DrawSplitNeed : Con := pure' fun
  | [.p v] => match slU v with
    | some l => some (.tp [.p (.sl 1 (ints (cnR l (0, 0)).1)), .p (.sl 1 (ints (spR l (cnR l (0, 0)).1 (cnR l (0, 0)).2).1))], [])
    | none => none
  | _ => none
theorem s_DrawSplitNeed {P : Program} (hm : P.follows .mixedOrders = true) {Γ : Gam} (hΓ : GS P Γ) {n : FuncId} {f_DrawYesCounts : FuncId} (is : Is P n (a_DrawSplitNeed f_DrawYesCounts)) (h_DrawYesCounts : Γ f_DrawYesCounts = c_DrawYesCounts)  : Says P n c_DrawSplitNeed := by
  refine Says.pure fun args r fs h => ?_
  split at h
  case h_2 => cases h
  rename_i v
  split at h
  case h_2 => cases h
  rename_i l hv
  simp only [Option.some.injEq, Prod.mk.injEq] at h
  obtain ⟨rfl, rfl⟩ := h
  refine is.go hm hΓ k_DrawSplitNeed o_DrawSplitNeed (by simp [a_DrawSplitNeed]) ?_
  simp only [a_DrawSplitNeed, h_DrawYesCounts, c_DrawYesCounts, hv, List.zipIdx_cons, List.zipIdx_nil, ↓SP, SQ, Gam.add, stepM, callC, argC, lendO, nmBy, nmC, likeL, likeB, plainOb, offs, exL, X, F, trP, trO, stepD, stepW, newA, SV.tr, SV.trL, fz, allP, Ob.tr, loadA, cellsA, SV.cells, binA, binI, eqOut, isSl, isPt, natOf, callee, snap, SV.refsL, SV.refs, thaw, fzAll, loA, hiA, elemOf, partsA, buildA, putCells, ↓reduceIte, reduceCtorEq, okCell, Nat.reduceAdd, Nat.reduceEqDiff, Nat.reduceSub, Nat.reduceMul, Nat.reduceLeDiff, Nat.reduceLT, Nat.reduceBEq, PV.scal, PV.scalL, SV.scal, SV.scalL, Ob.scal, PV.isCell, pure', resO]
  exact finA_val (by simp [retA, rvA, mkE_cons, mk_nil, mkO_cons, mkO_nil, loadA, SV.tr, SV.trL, nmF, rn_nil, rn_cons1, rn_cons2, plainOb, SV.refsL, SV.refs, Ob.refs, X, F, List.range_succ, mkO, setO_mk]) (by simp [SV.tr, SV.trL])
def hdB (c : List Int) : List Int := (beS true c).getD 0 []
theorem chkB_of {c : List Int} (hc : okC c = true) (hu : told c = false) : chkN true (ntT tabB) c = true := by
  obtain ⟨⟨l1, l3⟩, h8, hsum⟩ := okC_out hc
  have hk := keyN_bd (p := c.length) rfl h8
  have hdg := dg_key (p := c.length) rfl l3 h8
  have hch := chk_of (okP_B l1 l3) hk.2 (by rw [hdg]; exact hsum) (by rw [hdg]; exact hu)
  rwa [hdg] at hch
/-- No split has less than the need of its counts. -/
theorem sn_ge {c s : List Int} (hc : okC c = true) (hu : told c = false) (hs : s ∈ splL c) : ndI true c ≤ snV c s := by
  have hch := chkB_of hc hu
  simp only [chkN, Bool.and_eq_true, List.all_eq_true, decide_eq_true_eq] at hch
  have hle := (hch.1 s hs).2
  have hyb : yb true c s = yesL c s := rfl
  rw [hyb] at hle
  have a1 : ndI true c = (ntT tabB (pad3 c) : Int) := rfl
  have a2 : ndI true (yesL c s) = (ntT tabB (pad3 (yesL c s)) : Int) := rfl
  have a3 : ndI true (noL c s) = (ntT tabB (pad3 (noL c s)) : Int) := rfl
  simp only [snV]
  rw [a1, a2, a3]
  simp only [mxI]
  split <;> omega
structure HB (c : List Int) : Prop where
  mem : hdB c ∈ splL c
  len : 0 < (beS true c).length
  best : snV c (hdB c) = ndI true c
  back : backB c (hdB c) = false
theorem HB.of {c : List Int} (hc : okC c = true) (hu : told c = false) : HB c := by
  have hch := chkB_of hc hu
  simp only [chkN, Bool.and_eq_true, List.all_eq_true, List.any_eq_true, decide_eq_true_eq] at hch
  obtain ⟨hall, s0, hs0, hm0⟩ := hch
  have hyb : ∀ s, yb true c s = yesL c s := fun _ => rfl
  have hle0 := (hall s0 hs0).2
  rw [hyb] at hm0 hle0
  have hp0 : beP true c s0 = true := by
    simp only [beP, hyb, decide_eq_true_eq]
    have a1 : ndI true c = (ntT tabB (pad3 c) : Int) := rfl
    have a2 : ndI true (yesL c s0) = (ntT tabB (pad3 (yesL c s0)) : Int) := rfl
    have a3 : ndI true (noL c s0) = (ntT tabB (pad3 (noL c s0)) : Int) := rfl
    rw [a1, a2, a3]
    simp only [mxI]
    split <;> omega
  have hmem0 : s0 ∈ beS true c := List.mem_filter.2 ⟨hs0, hp0⟩
  have hlen : 0 < (beS true c).length := List.length_pos_of_mem hmem0
  have hhd : hdB c ∈ beS true c := by rw [hdB, getD_lt hlen]; exact List.getElem_mem hlen
  obtain ⟨hm, hp⟩ := List.mem_filter.1 hhd
  have hbest : snV c (hdB c) = ndI true c := by have h := hp; simp only [beP, hyb, decide_eq_true_eq] at h; exact h
  refine ⟨hm, hlen, hbest, ?_⟩
  simp only [snV] at hbest
  simp only [backB, Bool.or_eq_false_iff, decide_eq_false_iff_not]
  constructor
  · intro h; rw [h] at hbest; simp only [mxI] at hbest; split at hbest <;> omega
  · intro h; rw [h] at hbest; simp only [mxI] at hbest; split at hbest <;> omega
theorem restL_twice {c s : List Int} (hl : s.length = c.length) : restL c (restL c s) = s := by
  apply List.ext_getElem
  · rw [restL_len, restL_len]
  · intro j h1 h2
    have e1 : (restL c (restL c s)).getD j 0 = c.getD j 0 - (restL c s).getD j 0 := restL_get (by rw [restL_len]; exact h2)
    have e2 : (restL c s).getD j 0 = c.getD j 0 - s.getD j 0 := restL_get h2
    rw [getD_lt h1] at e1
    rw [e1, e2, getD_lt h2]; omega
theorem yes_rest {c s : List Int} (hl : s.length = c.length) : yesL c (restL c s) = noL c s := by
  simp only [yesL, noL, restL_twice hl]
theorem rest_okSp {c s : List Int} (h : okSp c s = true) : okSp c (restL c s) = true := by
  obtain ⟨h1, h2⟩ := okSp_out h
  refine okSp_all (by rw [restL_len]; exact h1) fun j hj => ?_
  have hjs : j < s.length := by rw [restL_len] at hj; exact hj
  rw [restL_get hjs]
  have := h2 j
  rw [dec_t (by omega), dec_t (by omega)]; rfl
def a_YesCounts (f_AreCounts : FuncId) (f_isSplit : FuncId) (f_bothWays : FuncId) : AFn := ⟨2, 
  .seq (.reg [⟨some 4, none, .d (.mv (.c (.nilsl)))⟩,
    ⟨some 5, none, .d (.mv (.c (.bool false)))⟩])
  (.seq (.seq (.reg [⟨some 8, none, .d (.mv (.t 0))⟩,
    ⟨some 9, none, .d (.call (.f f_AreCounts) [(.t 8)])⟩,
    ⟨some 10, none, .d (.not (.t 9))⟩,
    ⟨some 11, none, .d (.mv (.t 10))⟩,
    ⟨some 12, some (11, false), .d (.mv (.t 0))⟩,
    ⟨some 13, some (11, false), .d (.mv (.t 1))⟩,
    ⟨some 14, some (11, false), .d (.call (.f f_isSplit) [(.t 12), (.t 13)])⟩,
    ⟨some 15, some (11, false), .d (.not (.t 14))⟩,
    ⟨some 16, none, .d (.pick (.t 11) (.c (.bool true)) (.t 15))⟩])
  (.cond (.t 16) (.seq (.reg [⟨some 4, none, .d (.mv (.c (.nilsl)))⟩,
     ⟨some 5, none, .d (.mv (.c (.bool false)))⟩])
   (.ret)) (.skip)))
  (.seq (.reg [⟨some 18, none, .d (.mv (.t 0))⟩,
    ⟨some 19, none, .d (.mv (.t 1))⟩,
    ⟨some 20, none, .d (.call (.f f_bothWays) [(.t 18), (.t 19)])⟩,
    ⟨some 17, none, .d (.mv (.t 20))⟩,
    ⟨some 21, none, .d (.extract (.t 17) 0)⟩,
    ⟨some 22, none, .d (.extract (.t 17) 1)⟩,
    ⟨some 6, none, .d (.mv (.t 21))⟩,
    ⟨some 7, none, .d (.mv (.t 22))⟩])
  (.seq (.reg [⟨some 23, none, .d (.mv (.t 6))⟩,
    ⟨some 4, none, .d (.mv (.t 23))⟩,
    ⟨some 5, none, .d (.mv (.c (.bool true)))⟩])
  (.ret)))), [.tmp 4, .tmp 5]⟩
def n_YesCounts : Nat → Option Ann := fun _ => none
abbrev k_YesCounts : List Nat := [0, 1, 4, 5, 6, 16]
abbrev o_YesCounts : List Nat := []
def a_NoCounts (f_AreCounts : FuncId) (f_isSplit : FuncId) (f_bothWays : FuncId) : AFn := ⟨2, 
  .seq (.reg [⟨some 4, none, .d (.mv (.c (.nilsl)))⟩,
    ⟨some 5, none, .d (.mv (.c (.bool false)))⟩])
  (.seq (.seq (.reg [⟨some 8, none, .d (.mv (.t 0))⟩,
    ⟨some 9, none, .d (.call (.f f_AreCounts) [(.t 8)])⟩,
    ⟨some 10, none, .d (.not (.t 9))⟩,
    ⟨some 11, none, .d (.mv (.t 10))⟩,
    ⟨some 12, some (11, false), .d (.mv (.t 0))⟩,
    ⟨some 13, some (11, false), .d (.mv (.t 1))⟩,
    ⟨some 14, some (11, false), .d (.call (.f f_isSplit) [(.t 12), (.t 13)])⟩,
    ⟨some 15, some (11, false), .d (.not (.t 14))⟩,
    ⟨some 16, none, .d (.pick (.t 11) (.c (.bool true)) (.t 15))⟩])
  (.cond (.t 16) (.seq (.reg [⟨some 4, none, .d (.mv (.c (.nilsl)))⟩,
     ⟨some 5, none, .d (.mv (.c (.bool false)))⟩])
   (.ret)) (.skip)))
  (.seq (.reg [⟨some 18, none, .d (.mv (.t 0))⟩,
    ⟨some 19, none, .d (.mv (.t 1))⟩,
    ⟨some 20, none, .d (.call (.f f_bothWays) [(.t 18), (.t 19)])⟩,
    ⟨some 17, none, .d (.mv (.t 20))⟩,
    ⟨some 21, none, .d (.extract (.t 17) 0)⟩,
    ⟨some 22, none, .d (.extract (.t 17) 1)⟩,
    ⟨some 6, none, .d (.mv (.t 21))⟩,
    ⟨some 7, none, .d (.mv (.t 22))⟩])
  (.seq (.reg [⟨some 23, none, .d (.mv (.t 7))⟩,
    ⟨some 4, none, .d (.mv (.t 23))⟩,
    ⟨some 5, none, .d (.mv (.c (.bool true)))⟩])
  (.ret)))), [.tmp 4, .tmp 5]⟩
def n_NoCounts : Nat → Option Ann := fun _ => none
abbrev k_NoCounts : List Nat := [0, 1, 4, 5, 7, 16]
abbrev o_NoCounts : List Nat := []
def a_s_YesCounts (f_l4Counts : FuncId) (f_l4Split : FuncId) (f_l4Yes : FuncId) : AFn := ⟨2, 
  .seq (.reg [⟨some 4, none, .d (.mv (.c (.nilsl)))⟩,
    ⟨some 5, none, .d (.mv (.c (.bool false)))⟩])
  (.seq (.seq (.reg [⟨some 6, none, .d (.mv (.t 0))⟩,
    ⟨some 7, none, .d (.call (.f f_l4Counts) [(.t 6)])⟩,
    ⟨some 8, none, .d (.not (.t 7))⟩,
    ⟨some 9, none, .d (.mv (.t 8))⟩,
    ⟨some 10, some (9, false), .d (.mv (.t 0))⟩,
    ⟨some 11, some (9, false), .d (.mv (.t 1))⟩,
    ⟨some 12, some (9, false), .d (.call (.f f_l4Split) [(.t 10), (.t 11)])⟩,
    ⟨some 13, some (9, false), .d (.not (.t 12))⟩,
    ⟨some 14, none, .d (.pick (.t 9) (.c (.bool true)) (.t 13))⟩])
  (.cond (.t 14) (.seq (.reg [⟨some 15, none, .w (.bslice 1 [] [])⟩,
     ⟨some 4, none, .d (.mv (.t 15))⟩,
     ⟨some 5, none, .d (.mv (.c (.bool false)))⟩])
   (.ret)) (.skip)))
  (.seq (.reg [⟨some 16, none, .d (.mv (.t 0))⟩,
    ⟨some 17, none, .d (.mv (.t 1))⟩,
    ⟨some 18, none, .d (.call (.f f_l4Yes) [(.t 16), (.t 17)])⟩,
    ⟨some 4, none, .d (.mv (.t 18))⟩,
    ⟨some 5, none, .d (.mv (.c (.bool true)))⟩])
  (.ret))), [.tmp 4, .tmp 5]⟩
def n_s_YesCounts : Nat → Option Ann := fun _ => none
abbrev k_s_YesCounts : List Nat := [0, 1, 4, 5, 14]
abbrev o_s_YesCounts : List Nat := [15]
def a_s_NoCounts (f_l4Counts : FuncId) (f_l4Split : FuncId) (f_l4No : FuncId) : AFn := ⟨2, 
  .seq (.reg [⟨some 4, none, .d (.mv (.c (.nilsl)))⟩,
    ⟨some 5, none, .d (.mv (.c (.bool false)))⟩])
  (.seq (.seq (.reg [⟨some 6, none, .d (.mv (.t 0))⟩,
    ⟨some 7, none, .d (.call (.f f_l4Counts) [(.t 6)])⟩,
    ⟨some 8, none, .d (.not (.t 7))⟩,
    ⟨some 9, none, .d (.mv (.t 8))⟩,
    ⟨some 10, some (9, false), .d (.mv (.t 0))⟩,
    ⟨some 11, some (9, false), .d (.mv (.t 1))⟩,
    ⟨some 12, some (9, false), .d (.call (.f f_l4Split) [(.t 10), (.t 11)])⟩,
    ⟨some 13, some (9, false), .d (.not (.t 12))⟩,
    ⟨some 14, none, .d (.pick (.t 9) (.c (.bool true)) (.t 13))⟩])
  (.cond (.t 14) (.seq (.reg [⟨some 15, none, .w (.bslice 1 [] [])⟩,
     ⟨some 4, none, .d (.mv (.t 15))⟩,
     ⟨some 5, none, .d (.mv (.c (.bool false)))⟩])
   (.ret)) (.skip)))
  (.seq (.reg [⟨some 16, none, .d (.mv (.t 0))⟩,
    ⟨some 17, none, .d (.mv (.t 1))⟩,
    ⟨some 18, none, .d (.call (.f f_l4No) [(.t 16), (.t 17)])⟩,
    ⟨some 4, none, .d (.mv (.t 18))⟩,
    ⟨some 5, none, .d (.mv (.c (.bool true)))⟩])
  (.ret))), [.tmp 4, .tmp 5]⟩
def n_s_NoCounts : Nat → Option Ann := fun _ => none
abbrev k_s_NoCounts : List Nat := [0, 1, 4, 5, 14]
abbrev o_s_NoCounts : List Nat := [15]
def c_YesCounts : Con := pure' fun
  | [.p (.sl 1 c_), .p (.sl 1 s_)] => if isI c_ = true ∧ isI s_ = true ∧ ((ofI c_).length ≤ 1100000 ∧ (ofI s_).length ≤ 1100000) then some (.tp [.p (if (okC (ofI c_) && okSp (ofI c_) (ofI s_)) = true then .sl 1 (ints (yesL (ofI c_) (ofI s_))) else .nilsl), .p (.bool (okC (ofI c_) && okSp (ofI c_) (ofI s_)))], []) else none
  | _ => none
def c_NoCounts : Con := pure' fun
  | [.p (.sl 1 c_), .p (.sl 1 s_)] => if isI c_ = true ∧ isI s_ = true ∧ ((ofI c_).length ≤ 1100000 ∧ (ofI s_).length ≤ 1100000) then some (.tp [.p (if (okC (ofI c_) && okSp (ofI c_) (ofI s_)) = true then .sl 1 (ints (noL (ofI c_) (ofI s_))) else .nilsl), .p (.bool (okC (ofI c_) && okSp (ofI c_) (ofI s_)))], []) else none
  | _ => none
def c_s_YesCounts : Con := pure' fun
  | [.p (.sl 1 c_), .p (.sl 1 s_)] => if isI c_ = true ∧ isI s_ = true ∧ ((ofI c_).length ≤ 1100000 ∧ (ofI s_).length ≤ 1100000) then some (.tp [if (okC (ofI c_) && okSp (ofI c_) (ofI s_)) = true then .p (.sl 1 (ints (yesL (ofI c_) (ofI s_)))) else .ar 2000000, .p (.bool (okC (ofI c_) && okSp (ofI c_) (ofI s_)))], if (okC (ofI c_) && okSp (ofI c_) (ofI s_)) = true then [] else [.arr 1 []]) else none
  | _ => none
def c_s_NoCounts : Con := pure' fun
  | [.p (.sl 1 c_), .p (.sl 1 s_)] => if isI c_ = true ∧ isI s_ = true ∧ ((ofI c_).length ≤ 1100000 ∧ (ofI s_).length ≤ 1100000) then some (.tp [if (okC (ofI c_) && okSp (ofI c_) (ofI s_)) = true then .p (.sl 1 (ints (noL (ofI c_) (ofI s_)))) else .ar 2000000, .p (.bool (okC (ofI c_) && okSp (ofI c_) (ofI s_)))], if (okC (ofI c_) && okSp (ofI c_) (ofI s_)) = true then [] else [.arr 1 []]) else none
  | _ => none
theorem s_YesCounts {P : Program} (hm : P.follows .mixedOrders = true) {Γ : Gam} (hΓ : GS P Γ) {n : FuncId} {f_AreCounts : FuncId} {f_isSplit : FuncId} {f_bothWays : FuncId} (is : Is P n (a_YesCounts f_AreCounts f_isSplit f_bothWays)) (h_AreCounts : Γ f_AreCounts = c_AreCounts) (h_isSplit : Γ f_isSplit = c_isSplit) (h_bothWays : Γ f_bothWays = c_bothWays)  : Says P n c_YesCounts := by
  refine Says.pure fun args r fs h => ?_
  split at h
  case h_2 => cases h
  rename_i c_ s_
  split at h
  case isFalse => cases h
  rename_i hc
  obtain ⟨hc_, hc⟩ := hc
  obtain ⟨c, rfl⟩ := isI_out hc_
  obtain ⟨hs_, hc⟩ := hc
  obtain ⟨s, rfl⟩ := isI_out hs_
  simp only [ofI_ints, ofBo_bools, ofAs_asks, Option.some.injEq, Prod.mk.injEq] at h hc
  obtain ⟨rfl, rfl⟩ := h
  cases h1 : okC c with
  | false =>
    refine is.go hm hΓ k_YesCounts o_YesCounts (by simp [a_YesCounts]) ?_
    simp only [a_YesCounts, h_AreCounts, c_AreCounts, h_isSplit, c_isSplit, h_bothWays, c_bothWays, hc, h1, Bool.false_and, Bool.false_eq_true, List.zipIdx_cons, List.zipIdx_nil, ↓SP, SQ, Gam.add, stepM, callC, argC, lendO, nmBy, nmC, likeL, likeB, plainOb, offs, exL, X, F, trP, trO, stepD, stepW, newA, SV.tr, SV.trL, fz, allP, Ob.tr, loadA, cellsA, SV.cells, binA, binI, eqOut, isSl, isPt, natOf, callee, snap, SV.refsL, SV.refs, thaw, fzAll, loA, hiA, elemOf, partsA, buildA, putCells, ↓reduceIte, reduceCtorEq, okCell, Nat.reduceAdd, Nat.reduceEqDiff, Nat.reduceSub, Nat.reduceMul, Nat.reduceLeDiff, Nat.reduceLT, Nat.reduceBEq, PV.scal, PV.scalL, SV.scal, SV.scalL, Ob.scal, PV.isCell, pure', resO]
    exact finA_val (by simp [retA, rvA, mkE_cons, mk_nil, mkO_cons, mkO_nil, loadA, SV.tr, SV.trL, nmF, rn_nil, rn_cons1, rn_cons2, plainOb, SV.refsL, SV.refs, Ob.refs, X, F, List.range_succ, mkO, setO_mk]) (by simp [SV.tr, SV.trL])
  | true =>
    cases h2 : okSp c s with
    | false =>
      refine is.go hm hΓ k_YesCounts o_YesCounts (by simp [a_YesCounts]) ?_
      simp only [a_YesCounts, h_AreCounts, c_AreCounts, h_isSplit, c_isSplit, h_bothWays, c_bothWays, hc, h1, h2, Bool.and_false, Bool.false_eq_true, List.zipIdx_cons, List.zipIdx_nil, ↓SP, SQ, Gam.add, stepM, callC, argC, lendO, nmBy, nmC, likeL, likeB, plainOb, offs, exL, X, F, trP, trO, stepD, stepW, newA, SV.tr, SV.trL, fz, allP, Ob.tr, loadA, cellsA, SV.cells, binA, binI, eqOut, isSl, isPt, natOf, callee, snap, SV.refsL, SV.refs, thaw, fzAll, loA, hiA, elemOf, partsA, buildA, putCells, ↓reduceIte, reduceCtorEq, okCell, Nat.reduceAdd, Nat.reduceEqDiff, Nat.reduceSub, Nat.reduceMul, Nat.reduceLeDiff, Nat.reduceLT, Nat.reduceBEq, PV.scal, PV.scalL, SV.scal, SV.scalL, Ob.scal, PV.isCell, pure', resO]
      exact finA_val (by simp [retA, rvA, mkE_cons, mk_nil, mkO_cons, mkO_nil, loadA, SV.tr, SV.trL, nmF, rn_nil, rn_cons1, rn_cons2, plainOb, SV.refsL, SV.refs, Ob.refs, X, F, List.range_succ, mkO, setO_mk]) (by simp [SV.tr, SV.trL])
    | true =>
      obtain ⟨g1, g2, g3, g4⟩ := okCS h1 h2
      refine is.go hm hΓ k_YesCounts o_YesCounts (by simp [a_YesCounts]) ?_
      simp only [a_YesCounts, h_AreCounts, c_AreCounts, h_isSplit, c_isSplit, h_bothWays, c_bothWays, hc, h1, h2, g1, g2, g3, g4, Bool.and_self, List.zipIdx_cons, List.zipIdx_nil, ↓SP, SQ, Gam.add, stepM, callC, argC, lendO, nmBy, nmC, likeL, likeB, plainOb, offs, exL, X, F, trP, trO, stepD, stepW, newA, SV.tr, SV.trL, fz, allP, Ob.tr, loadA, cellsA, SV.cells, binA, binI, eqOut, isSl, isPt, natOf, callee, snap, SV.refsL, SV.refs, thaw, fzAll, loA, hiA, elemOf, partsA, buildA, putCells, ↓reduceIte, reduceCtorEq, okCell, Nat.reduceAdd, Nat.reduceEqDiff, Nat.reduceSub, Nat.reduceMul, Nat.reduceLeDiff, Nat.reduceLT, Nat.reduceBEq, PV.scal, PV.scalL, SV.scal, SV.scalL, Ob.scal, PV.isCell, pure', resO]
      exact finA_val (by simp [retA, rvA, mkE_cons, mk_nil, mkO_cons, mkO_nil, loadA, SV.tr, SV.trL, nmF, rn_nil, rn_cons1, rn_cons2, plainOb, SV.refsL, SV.refs, Ob.refs, X, F, List.range_succ, mkO, setO_mk]) (by simp [SV.tr, SV.trL])
theorem s_NoCounts {P : Program} (hm : P.follows .mixedOrders = true) {Γ : Gam} (hΓ : GS P Γ) {n : FuncId} {f_AreCounts : FuncId} {f_isSplit : FuncId} {f_bothWays : FuncId} (is : Is P n (a_NoCounts f_AreCounts f_isSplit f_bothWays)) (h_AreCounts : Γ f_AreCounts = c_AreCounts) (h_isSplit : Γ f_isSplit = c_isSplit) (h_bothWays : Γ f_bothWays = c_bothWays)  : Says P n c_NoCounts := by
  refine Says.pure fun args r fs h => ?_
  split at h
  case h_2 => cases h
  rename_i c_ s_
  split at h
  case isFalse => cases h
  rename_i hc
  obtain ⟨hc_, hc⟩ := hc
  obtain ⟨c, rfl⟩ := isI_out hc_
  obtain ⟨hs_, hc⟩ := hc
  obtain ⟨s, rfl⟩ := isI_out hs_
  simp only [ofI_ints, ofBo_bools, ofAs_asks, Option.some.injEq, Prod.mk.injEq] at h hc
  obtain ⟨rfl, rfl⟩ := h
  cases h1 : okC c with
  | false =>
    refine is.go hm hΓ k_NoCounts o_NoCounts (by simp [a_NoCounts]) ?_
    simp only [a_NoCounts, h_AreCounts, c_AreCounts, h_isSplit, c_isSplit, h_bothWays, c_bothWays, hc, h1, Bool.false_and, Bool.false_eq_true, List.zipIdx_cons, List.zipIdx_nil, ↓SP, SQ, Gam.add, stepM, callC, argC, lendO, nmBy, nmC, likeL, likeB, plainOb, offs, exL, X, F, trP, trO, stepD, stepW, newA, SV.tr, SV.trL, fz, allP, Ob.tr, loadA, cellsA, SV.cells, binA, binI, eqOut, isSl, isPt, natOf, callee, snap, SV.refsL, SV.refs, thaw, fzAll, loA, hiA, elemOf, partsA, buildA, putCells, ↓reduceIte, reduceCtorEq, okCell, Nat.reduceAdd, Nat.reduceEqDiff, Nat.reduceSub, Nat.reduceMul, Nat.reduceLeDiff, Nat.reduceLT, Nat.reduceBEq, PV.scal, PV.scalL, SV.scal, SV.scalL, Ob.scal, PV.isCell, pure', resO]
    exact finA_val (by simp [retA, rvA, mkE_cons, mk_nil, mkO_cons, mkO_nil, loadA, SV.tr, SV.trL, nmF, rn_nil, rn_cons1, rn_cons2, plainOb, SV.refsL, SV.refs, Ob.refs, X, F, List.range_succ, mkO, setO_mk]) (by simp [SV.tr, SV.trL])
  | true =>
    cases h2 : okSp c s with
    | false =>
      refine is.go hm hΓ k_NoCounts o_NoCounts (by simp [a_NoCounts]) ?_
      simp only [a_NoCounts, h_AreCounts, c_AreCounts, h_isSplit, c_isSplit, h_bothWays, c_bothWays, hc, h1, h2, Bool.and_false, Bool.false_eq_true, List.zipIdx_cons, List.zipIdx_nil, ↓SP, SQ, Gam.add, stepM, callC, argC, lendO, nmBy, nmC, likeL, likeB, plainOb, offs, exL, X, F, trP, trO, stepD, stepW, newA, SV.tr, SV.trL, fz, allP, Ob.tr, loadA, cellsA, SV.cells, binA, binI, eqOut, isSl, isPt, natOf, callee, snap, SV.refsL, SV.refs, thaw, fzAll, loA, hiA, elemOf, partsA, buildA, putCells, ↓reduceIte, reduceCtorEq, okCell, Nat.reduceAdd, Nat.reduceEqDiff, Nat.reduceSub, Nat.reduceMul, Nat.reduceLeDiff, Nat.reduceLT, Nat.reduceBEq, PV.scal, PV.scalL, SV.scal, SV.scalL, Ob.scal, PV.isCell, pure', resO]
      exact finA_val (by simp [retA, rvA, mkE_cons, mk_nil, mkO_cons, mkO_nil, loadA, SV.tr, SV.trL, nmF, rn_nil, rn_cons1, rn_cons2, plainOb, SV.refsL, SV.refs, Ob.refs, X, F, List.range_succ, mkO, setO_mk]) (by simp [SV.tr, SV.trL])
    | true =>
      obtain ⟨g1, g2, g3, g4⟩ := okCS h1 h2
      refine is.go hm hΓ k_NoCounts o_NoCounts (by simp [a_NoCounts]) ?_
      simp only [a_NoCounts, h_AreCounts, c_AreCounts, h_isSplit, c_isSplit, h_bothWays, c_bothWays, hc, h1, h2, g1, g2, g3, g4, Bool.and_self, List.zipIdx_cons, List.zipIdx_nil, ↓SP, SQ, Gam.add, stepM, callC, argC, lendO, nmBy, nmC, likeL, likeB, plainOb, offs, exL, X, F, trP, trO, stepD, stepW, newA, SV.tr, SV.trL, fz, allP, Ob.tr, loadA, cellsA, SV.cells, binA, binI, eqOut, isSl, isPt, natOf, callee, snap, SV.refsL, SV.refs, thaw, fzAll, loA, hiA, elemOf, partsA, buildA, putCells, ↓reduceIte, reduceCtorEq, okCell, Nat.reduceAdd, Nat.reduceEqDiff, Nat.reduceSub, Nat.reduceMul, Nat.reduceLeDiff, Nat.reduceLT, Nat.reduceBEq, PV.scal, PV.scalL, SV.scal, SV.scalL, Ob.scal, PV.isCell, pure', resO]
      exact finA_val (by simp [retA, rvA, mkE_cons, mk_nil, mkO_cons, mkO_nil, loadA, SV.tr, SV.trL, nmF, rn_nil, rn_cons1, rn_cons2, plainOb, SV.refsL, SV.refs, Ob.refs, X, F, List.range_succ, mkO, setO_mk]) (by simp [SV.tr, SV.trL])
theorem bd10 {l : List Int} (h : in8 l = true) : bd 10000 l = true := bd_in8 h (by omega)
theorem s_s_YesCounts {P : Program} (hm : P.follows .mixedOrders = true) {Γ : Gam} (hΓ : GS P Γ) {n : FuncId} {f_l4Counts : FuncId} {f_l4Split : FuncId} {f_l4Yes : FuncId} (is : Is P n (a_s_YesCounts f_l4Counts f_l4Split f_l4Yes)) (h_l4Counts : Γ f_l4Counts = c_AreCounts) (h_l4Split : Γ f_l4Split = c_isSplit) (h_l4Yes : Γ f_l4Yes = c_l4Yes)  : Says P n c_s_YesCounts := by
  refine Says.pure fun args r fs h => ?_
  split at h
  case h_2 => cases h
  rename_i c_ s_
  split at h
  case isFalse => cases h
  rename_i hc
  obtain ⟨hc_, hc⟩ := hc
  obtain ⟨c, rfl⟩ := isI_out hc_
  obtain ⟨hs_, hc⟩ := hc
  obtain ⟨s, rfl⟩ := isI_out hs_
  simp only [ofI_ints, ofBo_bools, ofAs_asks, Option.some.injEq, Prod.mk.injEq] at h hc
  obtain ⟨rfl, rfl⟩ := h
  cases h1 : okC c with
  | false =>
    refine is.go hm hΓ k_s_YesCounts o_s_YesCounts (by simp [a_s_YesCounts]) ?_
    simp only [a_s_YesCounts, h_l4Counts, c_AreCounts, h_l4Split, c_isSplit, h_l4Yes, c_l4Yes, hc, h1, Bool.false_and, Bool.false_eq_true, List.zipIdx_cons, List.zipIdx_nil, ↓SP, SQ, Gam.add, stepM, callC, argC, lendO, nmBy, nmC, likeL, likeB, plainOb, offs, exL, X, F, trP, trO, stepD, stepW, newA, SV.tr, SV.trL, fz, allP, Ob.tr, loadA, cellsA, SV.cells, binA, binI, eqOut, isSl, isPt, natOf, callee, snap, SV.refsL, SV.refs, thaw, fzAll, loA, hiA, elemOf, partsA, buildA, putCells, ↓reduceIte, reduceCtorEq, okCell, Nat.reduceAdd, Nat.reduceEqDiff, Nat.reduceSub, Nat.reduceMul, Nat.reduceLeDiff, Nat.reduceLT, Nat.reduceBEq, PV.scal, PV.scalL, SV.scal, SV.scalL, Ob.scal, PV.isCell, pure', resO]
    refine finA_gen [15] trivial (by simp [retA, rvA, mkE_cons, mk_nil, mkO_cons, mkO_nil, loadA, SV.tr, SV.trL, nmF, rn_nil, rn_cons1, rn_cons2, plainOb, SV.refsL, SV.refs, Ob.refs, X, F, List.range_succ, mkO, setO_mk]; rfl) ?_ ?_ ?_ ?_ ?_ ?_ ?_ <;> simp [ints, retA, rvA, mkE_cons, mk_nil, mkO_cons, mkO_nil, loadA, SV.tr, SV.trL, nmF, rn_nil, rn_cons1, rn_cons2, plainOb, SV.refsL, SV.refs, Ob.refs, X, F, List.range_succ, mkO, setO_mk]
  | true =>
    cases h2 : okSp c s with
    | false =>
      refine is.go hm hΓ k_s_YesCounts o_s_YesCounts (by simp [a_s_YesCounts]) ?_
      simp only [a_s_YesCounts, h_l4Counts, c_AreCounts, h_l4Split, c_isSplit, h_l4Yes, c_l4Yes, hc, h1, h2, Bool.and_false, Bool.false_eq_true, List.zipIdx_cons, List.zipIdx_nil, ↓SP, SQ, Gam.add, stepM, callC, argC, lendO, nmBy, nmC, likeL, likeB, plainOb, offs, exL, X, F, trP, trO, stepD, stepW, newA, SV.tr, SV.trL, fz, allP, Ob.tr, loadA, cellsA, SV.cells, binA, binI, eqOut, isSl, isPt, natOf, callee, snap, SV.refsL, SV.refs, thaw, fzAll, loA, hiA, elemOf, partsA, buildA, putCells, ↓reduceIte, reduceCtorEq, okCell, Nat.reduceAdd, Nat.reduceEqDiff, Nat.reduceSub, Nat.reduceMul, Nat.reduceLeDiff, Nat.reduceLT, Nat.reduceBEq, PV.scal, PV.scalL, SV.scal, SV.scalL, Ob.scal, PV.isCell, pure', resO]
      refine finA_gen [15] trivial (by simp [retA, rvA, mkE_cons, mk_nil, mkO_cons, mkO_nil, loadA, SV.tr, SV.trL, nmF, rn_nil, rn_cons1, rn_cons2, plainOb, SV.refsL, SV.refs, Ob.refs, X, F, List.range_succ, mkO, setO_mk]; rfl) ?_ ?_ ?_ ?_ ?_ ?_ ?_ <;> simp [ints, retA, rvA, mkE_cons, mk_nil, mkO_cons, mkO_nil, loadA, SV.tr, SV.trL, nmF, rn_nil, rn_cons1, rn_cons2, plainOb, SV.refsL, SV.refs, Ob.refs, X, F, List.range_succ, mkO, setO_mk]
    | true =>
      obtain ⟨g1, g2, g3, g4⟩ := okCS h1 h2
      obtain ⟨_, h8, _⟩ := okC_out h1
      have b1 := bd10 h8
      have b2 := bd10 (okSp_in8 h8 h2)
      refine is.go hm hΓ k_s_YesCounts o_s_YesCounts (by simp [a_s_YesCounts]) ?_
      simp only [a_s_YesCounts, h_l4Counts, c_AreCounts, h_l4Split, c_isSplit, h_l4Yes, c_l4Yes, hc, h1, h2, g1, g2, g3, g4, b1, b2, Bool.and_self, List.zipIdx_cons, List.zipIdx_nil, ↓SP, SQ, Gam.add, stepM, callC, argC, lendO, nmBy, nmC, likeL, likeB, plainOb, offs, exL, X, F, trP, trO, stepD, stepW, newA, SV.tr, SV.trL, fz, allP, Ob.tr, loadA, cellsA, SV.cells, binA, binI, eqOut, isSl, isPt, natOf, callee, snap, SV.refsL, SV.refs, thaw, fzAll, loA, hiA, elemOf, partsA, buildA, putCells, ↓reduceIte, reduceCtorEq, okCell, Nat.reduceAdd, Nat.reduceEqDiff, Nat.reduceSub, Nat.reduceMul, Nat.reduceLeDiff, Nat.reduceLT, Nat.reduceBEq, PV.scal, PV.scalL, SV.scal, SV.scalL, Ob.scal, PV.isCell, pure', resO]
      exact finA_val (by simp [retA, rvA, mkE_cons, mk_nil, mkO_cons, mkO_nil, loadA, SV.tr, SV.trL, nmF, rn_nil, rn_cons1, rn_cons2, plainOb, SV.refsL, SV.refs, Ob.refs, X, F, List.range_succ, mkO, setO_mk]) (by simp [SV.tr, SV.trL])
theorem s_s_NoCounts {P : Program} (hm : P.follows .mixedOrders = true) {Γ : Gam} (hΓ : GS P Γ) {n : FuncId} {f_l4Counts : FuncId} {f_l4Split : FuncId} {f_l4No : FuncId} (is : Is P n (a_s_NoCounts f_l4Counts f_l4Split f_l4No)) (h_l4Counts : Γ f_l4Counts = c_AreCounts) (h_l4Split : Γ f_l4Split = c_isSplit) (h_l4No : Γ f_l4No = c_l4No)  : Says P n c_s_NoCounts := by
  refine Says.pure fun args r fs h => ?_
  split at h
  case h_2 => cases h
  rename_i c_ s_
  split at h
  case isFalse => cases h
  rename_i hc
  obtain ⟨hc_, hc⟩ := hc
  obtain ⟨c, rfl⟩ := isI_out hc_
  obtain ⟨hs_, hc⟩ := hc
  obtain ⟨s, rfl⟩ := isI_out hs_
  simp only [ofI_ints, ofBo_bools, ofAs_asks, Option.some.injEq, Prod.mk.injEq] at h hc
  obtain ⟨rfl, rfl⟩ := h
  cases h1 : okC c with
  | false =>
    refine is.go hm hΓ k_s_NoCounts o_s_NoCounts (by simp [a_s_NoCounts]) ?_
    simp only [a_s_NoCounts, h_l4Counts, c_AreCounts, h_l4Split, c_isSplit, h_l4No, c_l4No, hc, h1, Bool.false_and, Bool.false_eq_true, List.zipIdx_cons, List.zipIdx_nil, ↓SP, SQ, Gam.add, stepM, callC, argC, lendO, nmBy, nmC, likeL, likeB, plainOb, offs, exL, X, F, trP, trO, stepD, stepW, newA, SV.tr, SV.trL, fz, allP, Ob.tr, loadA, cellsA, SV.cells, binA, binI, eqOut, isSl, isPt, natOf, callee, snap, SV.refsL, SV.refs, thaw, fzAll, loA, hiA, elemOf, partsA, buildA, putCells, ↓reduceIte, reduceCtorEq, okCell, Nat.reduceAdd, Nat.reduceEqDiff, Nat.reduceSub, Nat.reduceMul, Nat.reduceLeDiff, Nat.reduceLT, Nat.reduceBEq, PV.scal, PV.scalL, SV.scal, SV.scalL, Ob.scal, PV.isCell, pure', resO]
    refine finA_gen [15] trivial (by simp [retA, rvA, mkE_cons, mk_nil, mkO_cons, mkO_nil, loadA, SV.tr, SV.trL, nmF, rn_nil, rn_cons1, rn_cons2, plainOb, SV.refsL, SV.refs, Ob.refs, X, F, List.range_succ, mkO, setO_mk]; rfl) ?_ ?_ ?_ ?_ ?_ ?_ ?_ <;> simp [ints, retA, rvA, mkE_cons, mk_nil, mkO_cons, mkO_nil, loadA, SV.tr, SV.trL, nmF, rn_nil, rn_cons1, rn_cons2, plainOb, SV.refsL, SV.refs, Ob.refs, X, F, List.range_succ, mkO, setO_mk]
  | true =>
    cases h2 : okSp c s with
    | false =>
      refine is.go hm hΓ k_s_NoCounts o_s_NoCounts (by simp [a_s_NoCounts]) ?_
      simp only [a_s_NoCounts, h_l4Counts, c_AreCounts, h_l4Split, c_isSplit, h_l4No, c_l4No, hc, h1, h2, Bool.and_false, Bool.false_eq_true, List.zipIdx_cons, List.zipIdx_nil, ↓SP, SQ, Gam.add, stepM, callC, argC, lendO, nmBy, nmC, likeL, likeB, plainOb, offs, exL, X, F, trP, trO, stepD, stepW, newA, SV.tr, SV.trL, fz, allP, Ob.tr, loadA, cellsA, SV.cells, binA, binI, eqOut, isSl, isPt, natOf, callee, snap, SV.refsL, SV.refs, thaw, fzAll, loA, hiA, elemOf, partsA, buildA, putCells, ↓reduceIte, reduceCtorEq, okCell, Nat.reduceAdd, Nat.reduceEqDiff, Nat.reduceSub, Nat.reduceMul, Nat.reduceLeDiff, Nat.reduceLT, Nat.reduceBEq, PV.scal, PV.scalL, SV.scal, SV.scalL, Ob.scal, PV.isCell, pure', resO]
      refine finA_gen [15] trivial (by simp [retA, rvA, mkE_cons, mk_nil, mkO_cons, mkO_nil, loadA, SV.tr, SV.trL, nmF, rn_nil, rn_cons1, rn_cons2, plainOb, SV.refsL, SV.refs, Ob.refs, X, F, List.range_succ, mkO, setO_mk]; rfl) ?_ ?_ ?_ ?_ ?_ ?_ ?_ <;> simp [ints, retA, rvA, mkE_cons, mk_nil, mkO_cons, mkO_nil, loadA, SV.tr, SV.trL, nmF, rn_nil, rn_cons1, rn_cons2, plainOb, SV.refsL, SV.refs, Ob.refs, X, F, List.range_succ, mkO, setO_mk]
    | true =>
      obtain ⟨g1, g2, g3, g4⟩ := okCS h1 h2
      refine is.go hm hΓ k_s_NoCounts o_s_NoCounts (by simp [a_s_NoCounts]) ?_
      simp only [a_s_NoCounts, h_l4Counts, c_AreCounts, h_l4Split, c_isSplit, h_l4No, c_l4No, hc, h1, h2, g1, g2, g3, g4, Bool.and_self, List.zipIdx_cons, List.zipIdx_nil, ↓SP, SQ, Gam.add, stepM, callC, argC, lendO, nmBy, nmC, likeL, likeB, plainOb, offs, exL, X, F, trP, trO, stepD, stepW, newA, SV.tr, SV.trL, fz, allP, Ob.tr, loadA, cellsA, SV.cells, binA, binI, eqOut, isSl, isPt, natOf, callee, snap, SV.refsL, SV.refs, thaw, fzAll, loA, hiA, elemOf, partsA, buildA, putCells, ↓reduceIte, reduceCtorEq, okCell, Nat.reduceAdd, Nat.reduceEqDiff, Nat.reduceSub, Nat.reduceMul, Nat.reduceLeDiff, Nat.reduceLT, Nat.reduceBEq, PV.scal, PV.scalL, SV.scal, SV.scalL, Ob.scal, PV.isCell, pure', resO]
      exact finA_val (by simp [retA, rvA, mkE_cons, mk_nil, mkO_cons, mkO_nil, loadA, SV.tr, SV.trL, nmF, rn_nil, rn_cons1, rn_cons2, plainOb, SV.refsL, SV.refs, Ob.refs, X, F, List.range_succ, mkO, setO_mk]) (by simp [SV.tr, SV.trL])
def a_BestSplit (f_isUntold : FuncId) (f_neederOf : FuncId) (f_bothWays : FuncId) (f_nBest : FuncId) : AFn := ⟨1, 
  .seq (.reg [⟨some 2, none, .d (.mv (.c (.nilsl)))⟩,
    ⟨some 3, none, .d (.mv (.c (.bool false)))⟩])
  (.seq (.seq (.reg [⟨some 4, none, .d (.mv (.t 0))⟩,
    ⟨some 5, none, .d (.call (.f f_isUntold) [(.t 4)])⟩,
    ⟨some 6, none, .d (.not (.t 5))⟩])
  (.cond (.t 6) (.seq (.reg [⟨some 2, none, .d (.mv (.c (.nilsl)))⟩,
     ⟨some 3, none, .d (.mv (.c (.bool false)))⟩])
   (.ret)) (.skip)))
  (.seq (.reg [⟨some 7, none, .d (.call (.f f_neederOf) [(.f f_bothWays)])⟩,
    ⟨some 8, none, .d (.mv (.t 0))⟩,
    ⟨some 9, none, .d (.call (.f f_nBest) [(.t 7), (.t 8)])⟩,
    ⟨some 10, none, .d (.ia 1 (.t 9) (.c (.int .i64 0)))⟩,
    ⟨some 11, none, .d (.load false 1 (.t 10))⟩,
    ⟨some 2, none, .d (.mv (.t 11))⟩,
    ⟨some 3, none, .d (.mv (.c (.bool true)))⟩])
  (.ret))), [.tmp 2, .tmp 3]⟩
def n_BestSplit : Nat → Option Ann := fun _ => none
abbrev k_BestSplit : List Nat := [0, 2, 3, 6]
abbrev o_BestSplit : List Nat := []
def a_s_BestSplit (f_l4Counts : FuncId) (f_l4Told : FuncId) (f_l4Best : FuncId) (f_l1Own : FuncId) : AFn := ⟨1, 
  .seq (.reg [⟨some 2, none, .d (.mv (.c (.nilsl)))⟩,
    ⟨some 3, none, .d (.mv (.c (.bool false)))⟩])
  (.seq (.seq (.reg [⟨some 4, none, .d (.mv (.t 0))⟩,
    ⟨some 5, none, .d (.call (.f f_l4Counts) [(.t 4)])⟩,
    ⟨some 6, none, .d (.not (.t 5))⟩,
    ⟨some 7, none, .d (.mv (.t 6))⟩,
    ⟨some 8, some (7, false), .d (.mv (.t 0))⟩,
    ⟨some 9, some (7, false), .d (.call (.f f_l4Told) [(.t 8)])⟩,
    ⟨some 10, none, .d (.pick (.t 7) (.c (.bool true)) (.t 9))⟩])
  (.cond (.t 10) (.seq (.reg [⟨some 11, none, .w (.bslice 1 [] [])⟩,
     ⟨some 2, none, .d (.mv (.t 11))⟩,
     ⟨some 3, none, .d (.mv (.c (.bool false)))⟩])
   (.ret)) (.skip)))
  (.seq (.reg [⟨some 12, none, .d (.mv (.t 0))⟩,
    ⟨some 13, none, .d (.call (.f f_l4Best) [(.t 12)])⟩,
    ⟨some 14, none, .d (.ia 1 (.t 13) (.c (.int .i64 0)))⟩,
    ⟨some 15, none, .d (.load false 1 (.t 14))⟩,
    ⟨some 16, none, .d (.call (.f f_l1Own) [(.t 15)])⟩,
    ⟨some 2, none, .d (.mv (.t 16))⟩,
    ⟨some 3, none, .d (.mv (.c (.bool true)))⟩])
  (.ret))), [.tmp 2, .tmp 3]⟩
def n_s_BestSplit : Nat → Option Ann := fun _ => none
abbrev k_s_BestSplit : List Nat := [0, 2, 3, 10]
abbrev o_s_BestSplit : List Nat := [11]
def c_BestSplit : Con := pure' fun
  | [.p (.sl 1 c_)] => if isI c_ = true ∧ ((ofI c_).length ≤ 1100000) then some (.tp [.p (if (okC (ofI c_) && !told (ofI c_)) = true then .sl 1 (ints (hdB (ofI c_))) else .nilsl), .p (.bool (okC (ofI c_) && !told (ofI c_)))], []) else none
  | _ => none
def c_s_BestSplit : Con := pure' fun
  | [.p (.sl 1 c_)] => if isI c_ = true ∧ ((ofI c_).length ≤ 1100000) then some (.tp [if (okC (ofI c_) && !told (ofI c_)) = true then .p (.sl 1 (ints (hdB (ofI c_)))) else .ar 2000000, .p (.bool (okC (ofI c_) && !told (ofI c_)))], if (okC (ofI c_) && !told (ofI c_)) = true then [] else [.arr 1 []]) else none
  | _ => none
theorem s_BestSplit {P : Program} (hm : P.follows .mixedOrders = true) {Γ : Gam} (hΓ : GS P Γ) {n : FuncId} {f_isUntold : FuncId} {f_neederOf : FuncId} {f_bothWays : FuncId} {f_nBest : FuncId} (is : Is P n (a_BestSplit f_isUntold f_neederOf f_bothWays f_nBest)) (h_isUntold : Γ f_isUntold = c_isUntold) {Γ1 Γ2 : Gam} (h_neederOf : Γ f_neederOf = c_neederOf Γ1) (h_bothWays : Γ1 f_bothWays = c_bothWays) (h_nBest : Γ f_nBest = c_nBest Γ2) (h_bothWays2 : Γ2 f_bothWays = c_bothWays) : Says P n c_BestSplit := by
  refine Says.pure fun args r fs h => ?_
  split at h
  case h_2 => cases h
  rename_i c_
  split at h
  case isFalse => cases h
  rename_i hc
  obtain ⟨hc_, hc⟩ := hc
  obtain ⟨c, rfl⟩ := isI_out hc_
  simp only [ofI_ints, ofBo_bools, ofAs_asks, Option.some.injEq, Prod.mk.injEq] at h hc
  obtain ⟨rfl, rfl⟩ := h
  cases h1 : (okC c && !told c) with
  | false =>
    refine is.go hm hΓ k_BestSplit o_BestSplit (by simp [a_BestSplit]) ?_
    simp only [a_BestSplit, h_isUntold, c_isUntold, hc, h1, Bool.false_eq_true, List.zipIdx_cons, List.zipIdx_nil, ↓SP, SQ, Gam.add, stepM, callC, argC, lendO, nmBy, nmC, likeL, likeB, plainOb, offs, exL, X, F, trP, trO, stepD, stepW, newA, SV.tr, SV.trL, fz, allP, Ob.tr, loadA, cellsA, SV.cells, binA, binI, eqOut, isSl, isPt, natOf, callee, snap, SV.refsL, SV.refs, thaw, fzAll, loA, hiA, elemOf, partsA, buildA, putCells, ↓reduceIte, reduceCtorEq, okCell, Nat.reduceAdd, Nat.reduceEqDiff, Nat.reduceSub, Nat.reduceMul, Nat.reduceLeDiff, Nat.reduceLT, Nat.reduceBEq, PV.scal, PV.scalL, SV.scal, SV.scalL, Ob.scal, PV.isCell, pure', resO]
    exact finA_val (by simp [retA, rvA, mkE_cons, mk_nil, mkO_cons, mkO_nil, loadA, SV.tr, SV.trL, nmF, rn_nil, rn_cons1, rn_cons2, plainOb, SV.refsL, SV.refs, Ob.refs, X, F, List.range_succ, mkO, setO_mk]) (by simp [SV.tr, SV.trL])
  | true =>
    have hok : okC c = true := by simp only [Bool.and_eq_true] at h1; exact h1.1
    have hu : told c = false := by simp only [Bool.and_eq_true, Bool.not_eq_true'] at h1; exact h1.2
    have hne := neederOf_both h_bothWays
    have hE := okE_nES true
    have hr : isRule Γ2 f_bothWays true := by simpa [isRule] using h_bothWays2
    have hbl := beL_nES hr hok hu
    have hba := be_any hr hok hu
    have htk := sls_app_take (beS true c) (List.replicate ((splL c).length - (beS true c).length) .nilsl)
    have hln := (HB.of hok hu).len
    have hg := sls_get hln
    have hgd : (beS true c).getD 0 [] = hdB c := rfl
    rw [hgd] at hg
    refine is.go hm hΓ k_BestSplit o_BestSplit (by simp [a_BestSplit]) ?_
    simp only [a_BestSplit, h_isUntold, c_isUntold, hc, h1, hok, hu, h_neederOf, hne, h_nBest, c_nBest, h_bothWays2, true_or, hE, hok, hbl, hba, htk, hln, hg, sls_len, Nat.sub_zero, List.drop_zero, isI_ints, ofI_ints, ints_len, Bool.not_false, Bool.not_true, Bool.false_eq_true, Int.le_refl, Int.reduceToNat, List.zipIdx_cons, List.zipIdx_nil, ↓SP, SQ, Gam.add, stepM, callC, argC, lendO, nmBy, nmC, likeL, likeB, plainOb, offs, exL, X, F, trP, trO, stepD, stepW, newA, SV.tr, SV.trL, fz, allP, Ob.tr, loadA, cellsA, SV.cells, binA, binI, eqOut, isSl, isPt, natOf, callee, snap, SV.refsL, SV.refs, thaw, fzAll, loA, hiA, elemOf, partsA, buildA, putCells, ↓reduceIte, reduceCtorEq, okCell, Nat.reduceAdd, Nat.reduceEqDiff, Nat.reduceSub, Nat.reduceMul, Nat.reduceLeDiff, Nat.reduceLT, Nat.reduceBEq, PV.scal, PV.scalL, SV.scal, SV.scalL, Ob.scal, PV.isCell, pure', resO]
    exact finA_val (by simp [retA, rvA, mkE_cons, mk_nil, mkO_cons, mkO_nil, loadA, SV.tr, SV.trL, nmF, rn_nil, rn_cons1, rn_cons2, plainOb, SV.refsL, SV.refs, Ob.refs, X, F, List.range_succ, mkO, setO_mk]) (by simp [SV.tr, SV.trL])
theorem s_s_BestSplit {P : Program} (hm : P.follows .mixedOrders = true) {Γ : Gam} (hΓ : GS P Γ) {n : FuncId} {f_l4Counts : FuncId} {f_l4Told : FuncId} {f_l4Best : FuncId} {f_l1Own : FuncId} (is : Is P n (a_s_BestSplit f_l4Counts f_l4Told f_l4Best f_l1Own)) (h_l4Counts : Γ f_l4Counts = c_AreCounts) (h_l4Told : Γ f_l4Told = c_isTold) (h_l4Best : Γ f_l4Best = c_l4Best) (h_l1Own : Γ f_l1Own = c_Clone)  : Says P n c_s_BestSplit := by
  refine Says.pure fun args r fs h => ?_
  split at h
  case h_2 => cases h
  rename_i c_
  split at h
  case isFalse => cases h
  rename_i hc
  obtain ⟨hc_, hc⟩ := hc
  obtain ⟨c, rfl⟩ := isI_out hc_
  simp only [ofI_ints, ofBo_bools, ofAs_asks, Option.some.injEq, Prod.mk.injEq] at h hc
  obtain ⟨rfl, rfl⟩ := h
  cases h1 : okC c with
  | false =>
    refine is.go hm hΓ k_s_BestSplit o_s_BestSplit (by simp [a_s_BestSplit]) ?_
    simp only [a_s_BestSplit, h_l4Counts, c_AreCounts, h_l4Told, c_isTold, h_l4Best, c_l4Best, h_l1Own, c_Clone, hc, h1, Bool.false_and, Bool.false_eq_true, List.zipIdx_cons, List.zipIdx_nil, ↓SP, SQ, Gam.add, stepM, callC, argC, lendO, nmBy, nmC, likeL, likeB, plainOb, offs, exL, X, F, trP, trO, stepD, stepW, newA, SV.tr, SV.trL, fz, allP, Ob.tr, loadA, cellsA, SV.cells, binA, binI, eqOut, isSl, isPt, natOf, callee, snap, SV.refsL, SV.refs, thaw, fzAll, loA, hiA, elemOf, partsA, buildA, putCells, ↓reduceIte, reduceCtorEq, okCell, Nat.reduceAdd, Nat.reduceEqDiff, Nat.reduceSub, Nat.reduceMul, Nat.reduceLeDiff, Nat.reduceLT, Nat.reduceBEq, PV.scal, PV.scalL, SV.scal, SV.scalL, Ob.scal, PV.isCell, pure', resO]
    refine finA_gen [11] trivial (by simp [retA, rvA, mkE_cons, mk_nil, mkO_cons, mkO_nil, loadA, SV.tr, SV.trL, nmF, rn_nil, rn_cons1, rn_cons2, plainOb, SV.refsL, SV.refs, Ob.refs, X, F, List.range_succ, mkO, setO_mk]; rfl) ?_ ?_ ?_ ?_ ?_ ?_ ?_ <;> simp [ints, retA, rvA, mkE_cons, mk_nil, mkO_cons, mkO_nil, loadA, SV.tr, SV.trL, nmF, rn_nil, rn_cons1, rn_cons2, plainOb, SV.refsL, SV.refs, Ob.refs, X, F, List.range_succ, mkO, setO_mk]
  | true =>
    obtain ⟨⟨l1, l3⟩, h8, _⟩ := okC_out h1
    cases h2 : told c with
    | true =>
      refine is.go hm hΓ k_s_BestSplit o_s_BestSplit (by simp [a_s_BestSplit]) ?_
      simp only [a_s_BestSplit, h_l4Counts, c_AreCounts, h_l4Told, c_isTold, h_l4Best, c_l4Best, h_l1Own, c_Clone, hc, h1, h2, l3, h8, Bool.not_true, Bool.and_false, Bool.false_eq_true, List.zipIdx_cons, List.zipIdx_nil, ↓SP, SQ, Gam.add, stepM, callC, argC, lendO, nmBy, nmC, likeL, likeB, plainOb, offs, exL, X, F, trP, trO, stepD, stepW, newA, SV.tr, SV.trL, fz, allP, Ob.tr, loadA, cellsA, SV.cells, binA, binI, eqOut, isSl, isPt, natOf, callee, snap, SV.refsL, SV.refs, thaw, fzAll, loA, hiA, elemOf, partsA, buildA, putCells, ↓reduceIte, reduceCtorEq, okCell, Nat.reduceAdd, Nat.reduceEqDiff, Nat.reduceSub, Nat.reduceMul, Nat.reduceLeDiff, Nat.reduceLT, Nat.reduceBEq, PV.scal, PV.scalL, SV.scal, SV.scalL, Ob.scal, PV.isCell, pure', resO]
      refine finA_gen [11] trivial (by simp [retA, rvA, mkE_cons, mk_nil, mkO_cons, mkO_nil, loadA, SV.tr, SV.trL, nmF, rn_nil, rn_cons1, rn_cons2, plainOb, SV.refsL, SV.refs, Ob.refs, X, F, List.range_succ, mkO, setO_mk]; rfl) ?_ ?_ ?_ ?_ ?_ ?_ ?_ <;> simp [ints, retA, rvA, mkE_cons, mk_nil, mkO_cons, mkO_nil, loadA, SV.tr, SV.trL, nmF, rn_nil, rn_cons1, rn_cons2, plainOb, SV.refsL, SV.refs, Ob.refs, X, F, List.range_succ, mkO, setO_mk]
    | false =>
      have hB := HB.of h1 h2
      have hln := hB.len
      have hg := sls_get hln
      have hgd : (beS true c).getD 0 [] = hdB c := rfl
      rw [hgd] at hg
      have hl := spl_len hB.mem
      have hll : (hdB c).length ≤ 1100000 := by omega
      refine is.go hm hΓ k_s_BestSplit o_s_BestSplit (by simp [a_s_BestSplit]) ?_
      simp only [a_s_BestSplit, h_l4Counts, c_AreCounts, h_l4Told, c_isTold, h_l4Best, c_l4Best, h_l1Own, c_Clone, hc, h1, h2, l3, h8, hln, hg, hll, sls_len, Bool.not_false, Bool.and_self, Int.le_refl, Int.reduceToNat, List.zipIdx_cons, List.zipIdx_nil, ↓SP, SQ, Gam.add, stepM, callC, argC, lendO, nmBy, nmC, likeL, likeB, plainOb, offs, exL, X, F, trP, trO, stepD, stepW, newA, SV.tr, SV.trL, fz, allP, Ob.tr, loadA, cellsA, SV.cells, binA, binI, eqOut, isSl, isPt, natOf, callee, snap, SV.refsL, SV.refs, thaw, fzAll, loA, hiA, elemOf, partsA, buildA, putCells, ↓reduceIte, reduceCtorEq, okCell, Nat.reduceAdd, Nat.reduceEqDiff, Nat.reduceSub, Nat.reduceMul, Nat.reduceLeDiff, Nat.reduceLT, Nat.reduceBEq, PV.scal, PV.scalL, SV.scal, SV.scalL, Ob.scal, PV.isCell, pure', resO]
      exact finA_val (by simp [retA, rvA, mkE_cons, mk_nil, mkO_cons, mkO_nil, loadA, SV.tr, SV.trL, nmF, rn_nil, rn_cons1, rn_cons2, plainOb, SV.refsL, SV.refs, Ob.refs, X, F, List.range_succ, mkO, setO_mk]) (by simp [SV.tr, SV.trL])
def a_rBig : AFn := ⟨1, 
  .seq (.reg [⟨some 2, none, .d (.mv (.c (.bool false)))⟩])
  (.seq (.reg [⟨some 3, none, .d (.mv (.t 0))⟩,
    ⟨some 4, none, .d (.len (.t 3))⟩,
    ⟨some 5, none, .d (.bin .arith .gtr (.t 4) (.c (.int .i64 65536)))⟩,
    ⟨some 2, none, .d (.mv (.t 5))⟩])
  (.ret)), [.tmp 2]⟩
def n_rBig : Nat → Option Ann := fun _ => none
abbrev k_rBig : List Nat := [0, 2]
abbrev o_rBig : List Nat := []
abbrev By := {n : Int // 0 ≤ n ∧ n ≤ 255}
instance : Inhabited By := ⟨⟨0, by omega⟩⟩
def byE (n : By) : PV := .int .u8 n.1
theorem slU_bys (l : List By) : slU (.sl 1 (l.map byE)) = some (l.map Subtype.val) := by
  have h1 : (l.map byE).all isU = true := by
    simp only [List.all_map, List.all_eq_true, Function.comp_def, byE, isU]
    intro x _
    have := x.2
    simp [this.1, this.2]
  simp only [slU, h1, if_true]
  simp [ofU, byE, Function.comp_def]
theorem open_bytes' {H : Type} {enc : TypeId × Value → H} {P : Program} {W : World} {sp : Nat → Bool} {b0 : Nat} {t e : TypeId} (ht : P.underlying t = some (.slice e)) (he : P.underlying e = some (.int .u8)) (hc : P.cellsOf e = 1) {v : Value} {fuel : Nat} {x : DataW H × List MemPlace} (hval : Cell.okWide P W .any b0 t v)
    (h : DataW.trod enc P W 0 sp true fuel t [v] = some x) : ∃ (pv : PV) (l : List Int), slU pv = some l ∧ l.length ≤ 9223372036854775807 ∧ PR W (All W) pv v := by
  rcases open_sl (α := By) (φ := byE) (fun _ => rfl) ht hc (fun cs y n hy hcl => by
    obtain ⟨c, rfl⟩ : ∃ c, cs = [c] := List.length_eq_one_iff.1 hcl
    obtain ⟨m, h1, _, w⟩ := DataW.trod_int he hy
    injection h1 with h1; subst h1
    simp only [Lit.wf, Bool.and_eq_true, decide_eq_true_eq] at w
    have w1 : (0 : Int) ≤ m := w.1
    have w2 : m ≤ 255 := w.2
    exact ⟨⟨m, w1, w2⟩, fun i hi => by simp [byE, PV.cells] at hi; subst hi; exact .int _ _⟩) hval h with ⟨l, hl, hp⟩ | hv
  · exact ⟨.sl 1 (l.map byE), l.map Subtype.val, slU_bys l, by simpa using hl, hp⟩
  · exact ⟨.nilsl, [], rfl, by simp, by rw [hv]; exact .nilsl⟩
theorem open_bytesV {H : Type} {enc : TypeId × Value → H} {P : Program} {W : World} {sp : Nat → Bool} {b0 : Nat} {t e : TypeId} (ht : P.underlying t = some (.slice e)) (he : P.underlying e = some (.int .u8)) (hc : P.cellsOf e = 1) {v : Value} {d : DataW H} {p : List MemPlace} (hv : Value.okWide P W .any b0 t v)
    (h : DataW.Trod enc P W 0 sp true t v d p) : ∃ (pv : PV) (l : List Int), slU pv = some l ∧ l.length ≤ 9223372036854775807 ∧ PR W (All W) pv v := by
  obtain ⟨fuel, hf⟩ := trod_slice_cells ht hv h
  exact open_bytes' ht he hc (cell_slice ht hv) hf
end Go.Proofs.Ytihpfhdkjlphhaa.Pam
