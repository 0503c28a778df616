/- A part of the proof that stands in this folder: a small machine whose steps are shown to be the steps of the model, or walks of functions by it. No condition of its own. -/
import Derived.Test.YtmncbkkpchmjhaaGcMM
set_option linter.unusedVariables false
set_option linter.unusedSimpArgs false
namespace Go.Proofs.Ytmncbkkpchmjhaa.Pam
open Go
def ntR (both : Bool) : List Int → Nat := if both = true then ntT tabB else ntT tabO
def ndI (both : Bool) (c : List Int) : Int := (ntR both (pad3 c) : Int)
theorem okC_pad {c : List Int} (h : okC c = true) : pad3 c ∈ allT := by
  obtain ⟨⟨h1, h3⟩, h8, hs⟩ := okC_out h
  rw [mem_allT]
  have q := in8_get h8
  match c, h1, h3 with
  | [a], _, _ =>
    have h0 := q 0
    simp at h0 hs
    simp [pad3, inT]; omega
  | [a, b], _, _ =>
    have h0 := q 0
    have h1 := q 1
    simp at h0 h1 hs
    simp [pad3, inT]; omega
  | [a, b, d], _, _ =>
    have h0 := q 0
    have h1 := q 1
    have h2 := q 2
    simp at h0 h1 h2 hs
    simp [pad3, inT]; omega
theorem nt_bd (both : Bool) {t : List Int} (h : t ∈ allT) : ntR both t ≤ 9 := by
  cases both
  · have := ntO.top t h; simp only [ntR, Bool.false_eq_true, if_false]; omega
  · have := ntB.top t h; simp only [ntR, if_true]; omega
theorem eL_val {nt : List Int → Nat} : ∀ k, ∀ e ∈ eL nt k, 0 ≤ e.2 ∧ e.2 ≤ (k : Int)
  | 0, e, h => by
    simp only [eL, List.mem_map] at h
    obtain ⟨t, _, rfl⟩ := h
    simp
  | k + 1, e, h => by
    simp only [eL, List.mem_append, List.mem_map] at h
    rcases h with h | ⟨t, _, rfl⟩
    · have := eL_val k e h; omega
    · simp only; omega
theorem okE_nES (both : Bool) : okE (nES both) = true := by
  cases both
  · exact okE_ents (all3_eL _ _) fun e he => by have := eL_val 6 e he; omega
  · exact okE_ents (all3_eL _ _) fun e he => by have := eL_val 9 e he; omega
theorem ofE_nES (both : Bool) {c : List Int} (h : okC c = true) : ofE (nES both) c = ndI both c := by
  have hp := okC_pad h
  have hl := pad3_len (okC_out h).1.2
  cases both
  · simp only [nES, Bool.false_eq_true, if_false, ofE, look_ents hl (all3_eL _ _), lk_eL hp, if_pos (ntO.top _ hp), Option.map_some, ndI, ntR]
  · simp only [nES, if_true, ofE, look_ents hl (all3_eL _ _), lk_eL hp, if_pos (ntB.top _ hp), Option.map_some, ndI, ntR]
theorem tab_nd {c : List Int} (h : okC c = true) : (tabK (ntT tabB) c.length 9).getD (keyN c) 0 = ndI true c ∧ (tabK (ntT tabO) c.length 6).getD (keyN c) 0 = ndI false c := by
  have hp := okC_pad h
  obtain ⟨⟨h1, h3⟩, h8, hs⟩ := okC_out h
  rw [tabK_at rfl h3 h8 hs, tabK_at rfl h3 h8 hs, if_pos (ntB.top _ hp), if_pos (ntO.top _ hp)]
  exact ⟨rfl, rfl⟩
theorem ndI_bd (both : Bool) {c : List Int} (h : okC c = true) : 0 ≤ ndI both c ∧ ndI both c ≤ 9 := by
  have := nt_bd both (okC_pad h)
  simp only [ndI]; omega
theorem neederOf_both {Γ1 : Gam} {g : FuncId} (h : Γ1 g = c_bothWays) : c_neederOf Γ1 [.p (.fn g [] [])] [] = some (.ag [.p (.fn g [] []), .p (.mapv (nES true))], [], []) := by simp [c_neederOf, pure', h]
theorem neederOf_one {Γ1 : Gam} {g : FuncId} (h : Γ1 g = c_oneWay) : c_neederOf Γ1 [.p (.fn g [] [])] [] = some (.ag [.p (.fn g [] []), .p (.mapv (nES false))], [], []) := by simp [c_neederOf, pure', h, rules_apart]
theorem fr_okC {n : Nat} {m : Int} (hn : n ≤ 8) (hm : 0 ≤ m ∧ m ≤ 2) : okC (frL (n : Int) m) = true := by
  have hm' : m = 0 ∨ m = 1 ∨ m = 2 := by omega
  rcases hm' with rfl | rfl | rfl
  · simp [frL, okC, in8]; omega
  · simp [frL, okC, in8, List.replicate_succ]; omega
  · simp [frL, okC, in8, List.replicate_succ]; omega
theorem moF_congr {f g : Nat → Int} {q : Int} : ∀ {n : Nat}, (∀ k, k < n → f k = g k) → moF f q n = moF g q n
  | 0, _ => rfl
  | n + 1, h => by
    simp only [moF, h n (by omega)]
    rw [moF_congr fun k hk => h k (by omega)]
theorem moF_mono {g : Nat → Int} {q : Int} {n : Nat} (hn : g n ≤ q) : ∀ {N : Nat}, n < N → (∀ k, k + 1 < N → g k ≤ g (k + 1)) → (n + 1 = N ∨ q < g (n + 1)) → moF g q N = n
  | 0, h, _, _ => by omega
  | N + 1, h, hm, ho => by
    by_cases he : n = N
    · subst he; simp only [moF, if_pos hn]
    · have hlt : n < N := by omega
      have hq : q < g (n + 1) := by
        rcases ho with g1 | g1
        · omega
        · exact g1
      have hge : ∀ j, n + 1 + j ≤ N → q < g (n + 1 + j) := by
        intro j
        induction j with
        | zero => intro _; exact hq
        | succ j ih =>
          intro hj
          have h1 := ih (by omega)
          have h2 := hm (n + 1 + j) (by omega)
          have : g (n + 1 + j + 1) = g (n + 1 + (j + 1)) := rfl
          omega
      have hN : q < g N := by
        have := hge (N - (n + 1)) (by omega)
        have e : n + 1 + (N - (n + 1)) = N := by omega
        rw [e] at this; exact this
      simp only [moF, if_neg (show ¬ g N ≤ q by omega)]
      refine moF_mono hn hlt (fun k hk => hm k (by omega)) ?_
      by_cases e : n + 1 = N
      · exact .inl e
      · exact .inr hq
theorem taF_congr {f g : Nat → Int} {n : Nat} (h : ∀ k, k < n → f (k + 1) = g (k + 1)) : taF f n = taF g n := by
  simp only [taF]
  apply List.map_congr_left
  intro k hk
  exact h k (List.mem_range.1 hk)
def gF (both : Bool) (m : Int) (k : Nat) : Int := ndI both (frL k m)
theorem gF_mono (both : Bool) {m : Int} (hm : 0 ≤ m ∧ m ≤ 2) : ∀ k, k + 1 < 9 → gF both m k ≤ gF both m (k + 1) := by
  have hm' : m = 0 ∨ m = 1 ∨ m = 2 := by omega
  have h : ∀ b : Bool, ∀ m ∈ [(0 : Int), 1, 2], ((List.range 8).all fun k => decide (gF b m k ≤ gF b m (k + 1))) = true := by decide +kernel
  intro k hk
  have := List.all_eq_true.1 (h both m (by rcases hm' with rfl | rfl | rfl <;> simp)) k (List.mem_range.2 (by omega))
  simpa using this
theorem gF_1 (both : Bool) {m : Int} (hm : 0 ≤ m ∧ m ≤ 2) : gF both m 1 = 0 := by
  have hm' : m = 0 ∨ m = 1 ∨ m = 2 := by omega
  rcases hm' with rfl | rfl | rfl <;> cases both <;> rfl
def a_NeedOf (f_AreCounts : FuncId) (f_neederOf : FuncId) (f_bothWays : FuncId) (f_nOf : FuncId) : AFn := ⟨1, 
  .seq (.reg [⟨some 2, none, .d (.mv (.c (.int .i64 0)))⟩,
    ⟨some 3, none, .d (.mv (.c (.bool false)))⟩])
  (.seq (.seq (.reg [⟨some 4, none, .d (.mv (.t 0))⟩,
    ⟨some 5, none, .d (.call (.f f_AreCounts) [(.t 4)])⟩,
    ⟨some 6, none, .d (.not (.t 5))⟩])
  (.cond (.t 6) (.seq (.reg [⟨some 2, none, .d (.mv (.c (.int .i64 0)))⟩,
     ⟨some 3, none, .d (.mv (.c (.bool false)))⟩])
   (.ret)) (.skip)))
  (.seq (.reg [⟨some 7, none, .d (.call (.f f_neederOf) [(.f f_bothWays)])⟩,
    ⟨some 8, none, .d (.mv (.t 0))⟩,
    ⟨some 9, none, .d (.call (.f f_nOf) [(.t 7), (.t 8)])⟩,
    ⟨some 2, none, .d (.mv (.t 9))⟩,
    ⟨some 3, none, .d (.mv (.c (.bool true)))⟩])
  (.ret))), [.tmp 2, .tmp 3]⟩
def n_NeedOf : Nat → Option Ann := fun _ => none
abbrev k_NeedOf : List Nat := [0, 2, 3, 6]
abbrev o_NeedOf : List Nat := []
def a_s_NeedOf (f_l4Counts : FuncId) (f_l4Needs : FuncId) (f_l4Key : FuncId) : AFn := ⟨1, 
  .seq (.reg [⟨some 2, none, .d (.mv (.c (.int .i64 0)))⟩,
    ⟨some 3, none, .d (.mv (.c (.bool false)))⟩])
  (.seq (.seq (.reg [⟨some 4, none, .d (.mv (.t 0))⟩,
    ⟨some 5, none, .d (.call (.f f_l4Counts) [(.t 4)])⟩,
    ⟨some 6, none, .d (.not (.t 5))⟩])
  (.cond (.t 6) (.seq (.reg [⟨some 2, none, .d (.mv (.c (.int .i64 0)))⟩,
     ⟨some 3, none, .d (.mv (.c (.bool false)))⟩])
   (.ret)) (.skip)))
  (.seq (.reg [⟨some 7, none, .d (.mv (.t 0))⟩,
    ⟨some 8, none, .d (.len (.t 7))⟩,
    ⟨some 9, none, .d (.call (.f f_l4Needs) [(.t 8)])⟩,
    ⟨some 10, none, .d (.mv (.t 0))⟩,
    ⟨some 11, none, .d (.call (.f f_l4Key) [(.t 10)])⟩,
    ⟨some 12, none, .d (.ia 1 (.t 9) (.t 11))⟩,
    ⟨some 13, none, .d (.load false 1 (.t 12))⟩,
    ⟨some 2, none, .d (.mv (.t 13))⟩,
    ⟨some 3, none, .d (.mv (.c (.bool true)))⟩])
  (.ret))), [.tmp 2, .tmp 3]⟩
def n_s_NeedOf : Nat → Option Ann := fun _ => none
abbrev k_s_NeedOf : List Nat := [0, 2, 3, 6]
abbrev o_s_NeedOf : List Nat := []
def c_NeedOf : Con := pure' fun
  | [.p (.sl 1 c_)] => if isI c_ = true ∧ ((ofI c_).length ≤ 1100000) then some (.tp [.p (.int .i64 (if okC (ofI c_) = true then ndI true (ofI c_) else 0)), .p (.bool (okC (ofI c_)))], []) else none
  | _ => none
theorem s_NeedOf {P : Program} (hm : P.follows .mixedOrders = true) {Γ : Gam} (hΓ : GS P Γ) {n : FuncId} {f_AreCounts : FuncId} {f_neederOf : FuncId} {f_bothWays : FuncId} {f_nOf : FuncId} (is : Is P n (a_NeedOf f_AreCounts f_neederOf f_bothWays f_nOf)) (h_AreCounts : Γ f_AreCounts = c_AreCounts) (h_nOf : Γ f_nOf = c_nOf) {Γ1 : Gam} (h_neederOf : Γ f_neederOf = c_neederOf Γ1) (h_bothWays : Γ1 f_bothWays = c_bothWays) : Says P n c_NeedOf := by
  refine Says.pure fun args r fs h => ?_
  split at h
  case h_2 => cases h
  rename_i c_
  split at h
  case isFalse => cases h
  rename_i hc
  obtain ⟨hc_, hc⟩ := hc
  obtain ⟨c, rfl⟩ := isI_out hc_
  simp only [ofI_ints, ofBo_bools, ofAs_asks, Option.some.injEq, Prod.mk.injEq] at h hc
  obtain ⟨rfl, rfl⟩ := h
  cases h1 : okC c with
  | false =>
    refine is.go hm hΓ k_NeedOf o_NeedOf (by simp [a_NeedOf]) ?_
    simp only [a_NeedOf, h_AreCounts, c_AreCounts, h_nOf, c_nOf, hc, h1, Bool.false_eq_true, List.zipIdx_cons, List.zipIdx_nil, ↓SP, SQ, Gam.add, stepM, callC, argC, lendO, nmBy, nmC, likeL, likeB, plainOb, offs, X, F, trP, trO, stepD, stepW, newA, SV.tr, SV.trL, fz, allP, Ob.tr, loadA, cellsA, SV.cells, binA, binI, eqOut, isSl, isPt, natOf, callee, snap, SV.refsL, SV.refs, thaw, fzAll, loA, hiA, elemOf, partsA, buildA, putCells, ↓reduceIte, reduceCtorEq, okCell, Nat.reduceAdd, Nat.reduceEqDiff, Nat.reduceSub, Nat.reduceMul, Nat.reduceLeDiff, Nat.reduceLT, Nat.reduceBEq, PV.scal, PV.scalL, SV.scal, SV.scalL, Ob.scal, PV.isCell, pure', resO]
    exact finA_val (by simp [retA, rvA, List.mapM_cons, List.mapM_nil, Option.pure_def, Option.bind_eq_bind, Option.bind_some, Option.map_some, mkE_cons, mk_nil, mkO_cons, mkO_nil, loadA, ↓reduceIte, List.take_succ_cons, List.take_zero, List.drop_zero, List.drop_succ_cons, List.length_cons, List.length_nil, Nat.reduceAdd, Nat.reduceEqDiff, Nat.reduceLeDiff, Nat.zero_add, Nat.le_refl, reduceCtorEq, SV.tr, SV.trL, nmF, rn_nil, rn_cons1, rn_cons2, List.map_cons, List.map_nil, List.all_cons, List.all_nil, plainOb, SV.refsL, SV.refs, Ob.refs, X, F, List.range_succ, List.range_zero, List.nil_append, List.cons_append, List.isEmpty_nil, decide_true, Nat.reduceLT, Bool.and_self, Bool.and_true, and_self, and_true, List.getElem?_cons_zero, List.getElem?_cons_succ, List.nodup_cons, List.nodup_nil, List.mem_cons, List.not_mem_nil, not_false_eq_true, or_false, List.append_nil, mkO, setO_mk, List.mem_singleton]) (by simp [SV.tr, SV.trL])
  | true =>
    have hne := neederOf_both h_bothWays
    obtain ⟨⟨l1, l3⟩, h8, _⟩ := okC_out h1
    have hE := okE_nES true
    have hof := ofE_nES true h1
    refine is.go hm hΓ k_NeedOf o_NeedOf (by simp [a_NeedOf]) ?_
    simp only [a_NeedOf, h_AreCounts, c_AreCounts, h_nOf, c_nOf, hc, h1, h_neederOf, hne, l1, l3, hE, hof, isI_ints, ofI_ints, ints_len, List.zipIdx_cons, List.zipIdx_nil, ↓SP, SQ, Gam.add, stepM, callC, argC, lendO, nmBy, nmC, likeL, likeB, plainOb, offs, X, F, trP, trO, stepD, stepW, newA, SV.tr, SV.trL, fz, allP, Ob.tr, loadA, cellsA, SV.cells, binA, binI, eqOut, isSl, isPt, natOf, callee, snap, SV.refsL, SV.refs, thaw, fzAll, loA, hiA, elemOf, partsA, buildA, putCells, ↓reduceIte, reduceCtorEq, okCell, Nat.reduceAdd, Nat.reduceEqDiff, Nat.reduceSub, Nat.reduceMul, Nat.reduceLeDiff, Nat.reduceLT, Nat.reduceBEq, PV.scal, PV.scalL, SV.scal, SV.scalL, Ob.scal, PV.isCell, pure', resO]
    exact finA_val (by simp [retA, rvA, List.mapM_cons, List.mapM_nil, Option.pure_def, Option.bind_eq_bind, Option.bind_some, Option.map_some, mkE_cons, mk_nil, mkO_cons, mkO_nil, loadA, ↓reduceIte, List.take_succ_cons, List.take_zero, List.drop_zero, List.drop_succ_cons, List.length_cons, List.length_nil, Nat.reduceAdd, Nat.reduceEqDiff, Nat.reduceLeDiff, Nat.zero_add, Nat.le_refl, reduceCtorEq, SV.tr, SV.trL, nmF, rn_nil, rn_cons1, rn_cons2, List.map_cons, List.map_nil, List.all_cons, List.all_nil, plainOb, SV.refsL, SV.refs, Ob.refs, X, F, List.range_succ, List.range_zero, List.nil_append, List.cons_append, List.isEmpty_nil, decide_true, Nat.reduceLT, Bool.and_self, Bool.and_true, and_self, and_true, List.getElem?_cons_zero, List.getElem?_cons_succ, List.nodup_cons, List.nodup_nil, List.mem_cons, List.not_mem_nil, not_false_eq_true, or_false, List.append_nil, mkO, setO_mk, List.mem_singleton]) (by simp [SV.tr, SV.trL])
theorem s_s_NeedOf {P : Program} (hm : P.follows .mixedOrders = true) {Γ : Gam} (hΓ : GS P Γ) {n : FuncId} {f_l4Counts : FuncId} {f_l4Needs : FuncId} {f_l4Key : FuncId} (is : Is P n (a_s_NeedOf f_l4Counts f_l4Needs f_l4Key)) (h_l4Counts : Γ f_l4Counts = c_AreCounts) (h_l4Needs : Γ f_l4Needs = c_l4Needs) (h_l4Key : Γ f_l4Key = c_l4Key)  : Says P n c_NeedOf := by
  refine Says.pure fun args r fs h => ?_
  split at h
  case h_2 => cases h
  rename_i c_
  split at h
  case isFalse => cases h
  rename_i hc
  obtain ⟨hc_, hc⟩ := hc
  obtain ⟨c, rfl⟩ := isI_out hc_
  simp only [ofI_ints, ofBo_bools, ofAs_asks, Option.some.injEq, Prod.mk.injEq] at h hc
  obtain ⟨rfl, rfl⟩ := h
  cases h1 : okC c with
  | false =>
    refine is.go hm hΓ k_s_NeedOf o_s_NeedOf (by simp [a_s_NeedOf]) ?_
    simp only [a_s_NeedOf, h_l4Counts, c_AreCounts, h_l4Needs, c_l4Needs, h_l4Key, c_l4Key, hc, h1, Bool.false_eq_true, List.zipIdx_cons, List.zipIdx_nil, ↓SP, SQ, Gam.add, stepM, callC, argC, lendO, nmBy, nmC, likeL, likeB, plainOb, offs, X, F, trP, trO, stepD, stepW, newA, SV.tr, SV.trL, fz, allP, Ob.tr, loadA, cellsA, SV.cells, binA, binI, eqOut, isSl, isPt, natOf, callee, snap, SV.refsL, SV.refs, thaw, fzAll, loA, hiA, elemOf, partsA, buildA, putCells, ↓reduceIte, reduceCtorEq, okCell, Nat.reduceAdd, Nat.reduceEqDiff, Nat.reduceSub, Nat.reduceMul, Nat.reduceLeDiff, Nat.reduceLT, Nat.reduceBEq, PV.scal, PV.scalL, SV.scal, SV.scalL, Ob.scal, PV.isCell, pure', resO]
    exact finA_val (by simp [retA, rvA, List.mapM_cons, List.mapM_nil, Option.pure_def, Option.bind_eq_bind, Option.bind_some, Option.map_some, mkE_cons, mk_nil, mkO_cons, mkO_nil, loadA, ↓reduceIte, List.take_succ_cons, List.take_zero, List.drop_zero, List.drop_succ_cons, List.length_cons, List.length_nil, Nat.reduceAdd, Nat.reduceEqDiff, Nat.reduceLeDiff, Nat.zero_add, Nat.le_refl, reduceCtorEq, SV.tr, SV.trL, nmF, rn_nil, rn_cons1, rn_cons2, List.map_cons, List.map_nil, List.all_cons, List.all_nil, plainOb, SV.refsL, SV.refs, Ob.refs, X, F, List.range_succ, List.range_zero, List.nil_append, List.cons_append, List.isEmpty_nil, decide_true, Nat.reduceLT, Bool.and_self, Bool.and_true, and_self, and_true, List.getElem?_cons_zero, List.getElem?_cons_succ, List.nodup_cons, List.nodup_nil, List.mem_cons, List.not_mem_nil, not_false_eq_true, or_false, List.append_nil, mkO, setO_mk, List.mem_singleton]) (by simp [SV.tr, SV.trL])
  | true =>
    obtain ⟨⟨l1, l3⟩, h8, _⟩ := okC_out h1
    have l1' : (1 : Int) ≤ c.length := by omega
    have l3' : (c.length : Int) ≤ 3 := by omega
    obtain ⟨k0, k1⟩ := keyN_bd (p := c.length) rfl h8
    have hkk : (keyL c).toNat = keyN c := rfl
    have hg := ints_get (l := tabK (ntT tabB) c.length 9) (i := keyN c) (by rw [tabK_len]; exact k1)
    have htn := (tab_nd h1).1
    rw [htn] at hg
    refine is.go hm hΓ k_s_NeedOf o_s_NeedOf (by simp [a_s_NeedOf]) ?_
    simp only [a_s_NeedOf, h_l4Counts, c_AreCounts, h_l4Needs, c_l4Needs, h_l4Key, c_l4Key, hc, h1, l1', l3', l3, h8, k0, hkk, hg, Int.toNat_natCast, isI_ints, ofI_ints, ints_len, List.zipIdx_cons, List.zipIdx_nil, ↓SP, SQ, Gam.add, stepM, callC, argC, lendO, nmBy, nmC, likeL, likeB, plainOb, offs, X, F, trP, trO, stepD, stepW, newA, SV.tr, SV.trL, fz, allP, Ob.tr, loadA, cellsA, SV.cells, binA, binI, eqOut, isSl, isPt, natOf, callee, snap, SV.refsL, SV.refs, thaw, fzAll, loA, hiA, elemOf, partsA, buildA, putCells, ↓reduceIte, reduceCtorEq, okCell, Nat.reduceAdd, Nat.reduceEqDiff, Nat.reduceSub, Nat.reduceMul, Nat.reduceLeDiff, Nat.reduceLT, Nat.reduceBEq, PV.scal, PV.scalL, SV.scal, SV.scalL, Ob.scal, PV.isCell, pure', resO]
    exact finA_val (by simp [retA, rvA, List.mapM_cons, List.mapM_nil, Option.pure_def, Option.bind_eq_bind, Option.bind_some, Option.map_some, mkE_cons, mk_nil, mkO_cons, mkO_nil, loadA, ↓reduceIte, List.take_succ_cons, List.take_zero, List.drop_zero, List.drop_succ_cons, List.length_cons, List.length_nil, Nat.reduceAdd, Nat.reduceEqDiff, Nat.reduceLeDiff, Nat.zero_add, Nat.le_refl, reduceCtorEq, SV.tr, SV.trL, nmF, rn_nil, rn_cons1, rn_cons2, List.map_cons, List.map_nil, List.all_cons, List.all_nil, plainOb, SV.refsL, SV.refs, Ob.refs, X, F, List.range_succ, List.range_zero, List.nil_append, List.cons_append, List.isEmpty_nil, decide_true, Nat.reduceLT, Bool.and_self, Bool.and_true, and_self, and_true, List.getElem?_cons_zero, List.getElem?_cons_succ, List.nodup_cons, List.nodup_nil, List.mem_cons, List.not_mem_nil, not_false_eq_true, or_false, List.append_nil, mkO, setO_mk, List.mem_singleton]) (by simp [SV.tr, SV.trL])
def a_MostByNeed (f_in : FuncId) (f_isMost : FuncId) (f_neederOf : FuncId) (f_bothWays : FuncId) (f_nMost : FuncId) : AFn := ⟨2, 
  .seq (.reg [⟨some 4, none, .d (.mv (.c (.int .i64 0)))⟩,
    ⟨some 5, none, .d (.mv (.c (.bool false)))⟩])
  (.seq (.seq (.reg [⟨some 6, none, .d (.mv (.t 0))⟩,
    ⟨some 7, none, .d (.call (.f f_in) [(.t 6), (.c (.int .i64 0)), (.c (.int .i64 20))])⟩,
    ⟨some 8, none, .d (.not (.t 7))⟩,
    ⟨some 9, none, .d (.mv (.t 8))⟩,
    ⟨some 10, some (9, false), .d (.mv (.t 1))⟩,
    ⟨some 11, some (9, false), .d (.call (.f f_isMost) [(.t 10)])⟩,
    ⟨some 12, some (9, false), .d (.not (.t 11))⟩,
    ⟨some 13, none, .d (.pick (.t 9) (.c (.bool true)) (.t 12))⟩])
  (.cond (.t 13) (.seq (.reg [⟨some 4, none, .d (.mv (.c (.int .i64 0)))⟩,
     ⟨some 5, none, .d (.mv (.c (.bool false)))⟩])
   (.ret)) (.skip)))
  (.seq (.reg [⟨some 14, none, .d (.call (.f f_neederOf) [(.f f_bothWays)])⟩,
    ⟨some 15, none, .d (.mv (.t 0))⟩,
    ⟨some 16, none, .d (.mv (.t 1))⟩,
    ⟨some 17, none, .d (.call (.f f_nMost) [(.t 14), (.t 15), (.t 16)])⟩,
    ⟨some 4, none, .d (.mv (.t 17))⟩,
    ⟨some 5, none, .d (.mv (.c (.bool true)))⟩])
  (.ret))), [.tmp 4, .tmp 5]⟩
def n_MostByNeed : Nat → Option Ann := fun _ => none
abbrev k_MostByNeed : List Nat := [0, 1, 4, 5, 13]
abbrev o_MostByNeed : List Nat := []
def a_s_MostByNeed (f_l1In : FuncId) (f_l4Needs : FuncId) (f_countsOf : FuncId) (f_l4Key : FuncId) : AFn := ⟨2, 
  .seq (.reg [⟨some 4, none, .d (.mv (.c (.int .i64 0)))⟩,
    ⟨some 5, none, .d (.mv (.c (.bool false)))⟩])
  (.seq (.seq (.reg [⟨some 8, none, .d (.mv (.t 0))⟩,
    ⟨some 9, none, .d (.call (.f f_l1In) [(.t 8), (.c (.int .i64 0)), (.c (.int .i64 20))])⟩,
    ⟨some 10, none, .d (.not (.t 9))⟩,
    ⟨some 11, none, .d (.mv (.t 10))⟩,
    ⟨some 12, some (11, false), .d (.mv (.t 1))⟩,
    ⟨some 13, some (11, false), .d (.call (.f f_l1In) [(.t 12), (.c (.int .i64 0)), (.c (.int .i64 2))])⟩,
    ⟨some 14, some (11, false), .d (.not (.t 13))⟩,
    ⟨some 15, none, .d (.pick (.t 11) (.c (.bool true)) (.t 14))⟩])
  (.cond (.t 15) (.seq (.reg [⟨some 4, none, .d (.mv (.c (.int .i64 0)))⟩,
     ⟨some 5, none, .d (.mv (.c (.bool false)))⟩])
   (.ret)) (.skip)))
  (.seq (.reg [⟨some 16, none, .d (.mv (.t 1))⟩,
    ⟨some 17, none, .d (.bin .arith .add (.t 16) (.c (.int .i64 1)))⟩,
    ⟨some 18, none, .d (.call (.f f_l4Needs) [(.t 17)])⟩,
    ⟨some 6, none, .d (.mv (.t 18))⟩,
    ⟨some 7, none, .d (.mv (.c (.int .i64 1)))⟩])
  (.seq (.block 0 (.loop (.seq (.seq (.reg [⟨some 19, none, .d (.mv (.t 7))⟩,
      ⟨some 20, none, .d (.bin .arith .lss (.t 19) (.c (.int .i64 8)))⟩,
      ⟨some 21, none, .d (.mv (.t 20))⟩,
      ⟨some 22, some (21, true), .d (.mv (.t 6))⟩,
      ⟨some 23, some (21, true), .d (.mv (.t 7))⟩,
      ⟨some 24, some (21, true), .d (.bin .arith .add (.t 23) (.c (.int .i64 1)))⟩,
      ⟨some 25, some (21, true), .d (.mv (.t 1))⟩,
      ⟨some 26, some (21, true), .d (.call (.f f_countsOf) [(.t 24), (.t 25)])⟩,
      ⟨some 27, some (21, true), .d (.call (.f f_l4Key) [(.t 26)])⟩,
      ⟨some 28, some (21, true), .d (.ia 1 (.t 22) (.t 27))⟩,
      ⟨some 29, some (21, true), .d (.load false 1 (.t 28))⟩,
      ⟨some 30, some (21, true), .d (.mv (.t 0))⟩,
      ⟨some 31, some (21, true), .d (.bin .arith .leq (.t 29) (.t 30))⟩,
      ⟨some 32, none, .d (.pick (.t 21) (.t 31) (.c (.bool false)))⟩])
    (.cond (.t 32) (.skip) (.exit 0)))
    (.block 1 (.reg [⟨some 33, none, .d (.mv (.t 7))⟩,
       ⟨some 34, none, .d (.bin .arith .add (.t 33) (.c (.int .i64 1)))⟩,
       ⟨some 7, none, .d (.mv (.t 34))⟩])))))
  (.seq (.reg [⟨some 35, none, .d (.mv (.t 7))⟩,
    ⟨some 4, none, .d (.mv (.t 35))⟩,
    ⟨some 5, none, .d (.mv (.c (.bool true)))⟩])
  (.ret))))), [.tmp 4, .tmp 5]⟩
def n_s_MostByNeed : Nat → Option Ann := fun _ => none
abbrev k_s_MostByNeed : List Nat := [0, 1, 4, 5, 6, 7, 15, 32]
abbrev o_s_MostByNeed : List Nat := []
def c_MostByNeed : Con := pure' fun
  | [.p (.int .i64 q), .p (.int .i64 m)] => if (True) then some (.tp [.p (.int .i64 (if (decide (0 ≤ q) && decide (q ≤ 20) && (decide (0 ≤ m) && decide (m ≤ 2))) = true then moF (gF true m) q 9 else 0)), .p (.bool (decide (0 ≤ q) && decide (q ≤ 20) && (decide (0 ≤ m) && decide (m ≤ 2))))], []) else none
  | _ => none
theorem s_MostByNeed {P : Program} (hm : P.follows .mixedOrders = true) {Γ : Gam} (hΓ : GS P Γ) {n : FuncId} {f_in : FuncId} {f_isMost : FuncId} {f_neederOf : FuncId} {f_bothWays : FuncId} {f_nMost : FuncId} (is : Is P n (a_MostByNeed f_in f_isMost f_neederOf f_bothWays f_nMost)) (h_in : Γ f_in = c_in) (h_isMost : Γ f_isMost = c_isMost) (h_nMost : Γ f_nMost = c_nMost) {Γ1 : Gam} (h_neederOf : Γ f_neederOf = c_neederOf Γ1) (h_bothWays : Γ1 f_bothWays = c_bothWays) : Says P n c_MostByNeed := by
  refine Says.pure fun args r fs h => ?_
  split at h
  case h_2 => cases h
  rename_i q m
  split at h
  case isFalse => cases h
  rename_i hc
  simp only [ofI_ints, ofBo_bools, ofAs_asks, Option.some.injEq, Prod.mk.injEq] at h hc
  obtain ⟨rfl, rfl⟩ := h
  cases h1 : (decide (0 ≤ q) && decide (q ≤ 20)) with
  | false =>
    refine is.go hm hΓ k_MostByNeed o_MostByNeed (by simp [a_MostByNeed]) ?_
    simp only [a_MostByNeed, h_in, c_in, h_isMost, c_isMost, h_nMost, c_nMost, h1, Bool.false_and, Bool.false_eq_true, List.zipIdx_cons, List.zipIdx_nil, ↓SP, SQ, Gam.add, stepM, callC, argC, lendO, nmBy, nmC, likeL, likeB, plainOb, offs, X, F, trP, trO, stepD, stepW, newA, SV.tr, SV.trL, fz, allP, Ob.tr, loadA, cellsA, SV.cells, binA, binI, eqOut, isSl, isPt, natOf, callee, snap, SV.refsL, SV.refs, thaw, fzAll, loA, hiA, elemOf, partsA, buildA, putCells, ↓reduceIte, reduceCtorEq, okCell, Nat.reduceAdd, Nat.reduceEqDiff, Nat.reduceSub, Nat.reduceMul, Nat.reduceLeDiff, Nat.reduceLT, Nat.reduceBEq, PV.scal, PV.scalL, SV.scal, SV.scalL, Ob.scal, PV.isCell, pure', resO]
    exact finA_val (by simp [retA, rvA, List.mapM_cons, List.mapM_nil, Option.pure_def, Option.bind_eq_bind, Option.bind_some, Option.map_some, mkE_cons, mk_nil, mkO_cons, mkO_nil, loadA, ↓reduceIte, List.take_succ_cons, List.take_zero, List.drop_zero, List.drop_succ_cons, List.length_cons, List.length_nil, Nat.reduceAdd, Nat.reduceEqDiff, Nat.reduceLeDiff, Nat.zero_add, Nat.le_refl, reduceCtorEq, SV.tr, SV.trL, nmF, rn_nil, rn_cons1, rn_cons2, List.map_cons, List.map_nil, List.all_cons, List.all_nil, plainOb, SV.refsL, SV.refs, Ob.refs, X, F, List.range_succ, List.range_zero, List.nil_append, List.cons_append, List.isEmpty_nil, decide_true, Nat.reduceLT, Bool.and_self, Bool.and_true, and_self, and_true, List.getElem?_cons_zero, List.getElem?_cons_succ, List.nodup_cons, List.nodup_nil, List.mem_cons, List.not_mem_nil, not_false_eq_true, or_false, List.append_nil, mkO, setO_mk, List.mem_singleton]) (by simp [SV.tr, SV.trL])
  | true =>
    cases h2 : (decide (0 ≤ m) && decide (m ≤ 2)) with
    | false =>
      refine is.go hm hΓ k_MostByNeed o_MostByNeed (by simp [a_MostByNeed]) ?_
      simp only [a_MostByNeed, h_in, c_in, h_isMost, c_isMost, h_nMost, c_nMost, h1, h2, Bool.and_false, Bool.false_eq_true, List.zipIdx_cons, List.zipIdx_nil, ↓SP, SQ, Gam.add, stepM, callC, argC, lendO, nmBy, nmC, likeL, likeB, plainOb, offs, X, F, trP, trO, stepD, stepW, newA, SV.tr, SV.trL, fz, allP, Ob.tr, loadA, cellsA, SV.cells, binA, binI, eqOut, isSl, isPt, natOf, callee, snap, SV.refsL, SV.refs, thaw, fzAll, loA, hiA, elemOf, partsA, buildA, putCells, ↓reduceIte, reduceCtorEq, okCell, Nat.reduceAdd, Nat.reduceEqDiff, Nat.reduceSub, Nat.reduceMul, Nat.reduceLeDiff, Nat.reduceLT, Nat.reduceBEq, PV.scal, PV.scalL, SV.scal, SV.scalL, Ob.scal, PV.isCell, pure', resO]
      exact finA_val (by simp [retA, rvA, List.mapM_cons, List.mapM_nil, Option.pure_def, Option.bind_eq_bind, Option.bind_some, Option.map_some, mkE_cons, mk_nil, mkO_cons, mkO_nil, loadA, ↓reduceIte, List.take_succ_cons, List.take_zero, List.drop_zero, List.drop_succ_cons, List.length_cons, List.length_nil, Nat.reduceAdd, Nat.reduceEqDiff, Nat.reduceLeDiff, Nat.zero_add, Nat.le_refl, reduceCtorEq, SV.tr, SV.trL, nmF, rn_nil, rn_cons1, rn_cons2, List.map_cons, List.map_nil, List.all_cons, List.all_nil, plainOb, SV.refsL, SV.refs, Ob.refs, X, F, List.range_succ, List.range_zero, List.nil_append, List.cons_append, List.isEmpty_nil, decide_true, Nat.reduceLT, Bool.and_self, Bool.and_true, and_self, and_true, List.getElem?_cons_zero, List.getElem?_cons_succ, List.nodup_cons, List.nodup_nil, List.mem_cons, List.not_mem_nil, not_false_eq_true, or_false, List.append_nil, mkO, setO_mk, List.mem_singleton]) (by simp [SV.tr, SV.trL])
    | true =>
      have hq2 : 0 ≤ m ∧ m ≤ 2 := by simpa using h2
      have hne := neederOf_both h_bothWays
      have hE := okE_nES true
      have hmo : moF (fun k => ofE (nES true) (frL (k : Nat) m)) q 9 = moF (gF true m) q 9 := moF_congr fun k hk => ofE_nES true (fr_okC (by omega) hq2)
      refine is.go hm hΓ k_MostByNeed o_MostByNeed (by simp [a_MostByNeed]) ?_
      simp only [a_MostByNeed, h_in, c_in, h_isMost, c_isMost, h_nMost, c_nMost, h1, h2, hq2, h_neederOf, hne, hE, hmo, Bool.and_self, List.zipIdx_cons, List.zipIdx_nil, ↓SP, SQ, Gam.add, stepM, callC, argC, lendO, nmBy, nmC, likeL, likeB, plainOb, offs, X, F, trP, trO, stepD, stepW, newA, SV.tr, SV.trL, fz, allP, Ob.tr, loadA, cellsA, SV.cells, binA, binI, eqOut, isSl, isPt, natOf, callee, snap, SV.refsL, SV.refs, thaw, fzAll, loA, hiA, elemOf, partsA, buildA, putCells, ↓reduceIte, reduceCtorEq, okCell, Nat.reduceAdd, Nat.reduceEqDiff, Nat.reduceSub, Nat.reduceMul, Nat.reduceLeDiff, Nat.reduceLT, Nat.reduceBEq, PV.scal, PV.scalL, SV.scal, SV.scalL, Ob.scal, PV.isCell, pure', resO]
      exact finA_val (by simp [retA, rvA, List.mapM_cons, List.mapM_nil, Option.pure_def, Option.bind_eq_bind, Option.bind_some, Option.map_some, mkE_cons, mk_nil, mkO_cons, mkO_nil, loadA, ↓reduceIte, List.take_succ_cons, List.take_zero, List.drop_zero, List.drop_succ_cons, List.length_cons, List.length_nil, Nat.reduceAdd, Nat.reduceEqDiff, Nat.reduceLeDiff, Nat.zero_add, Nat.le_refl, reduceCtorEq, SV.tr, SV.trL, nmF, rn_nil, rn_cons1, rn_cons2, List.map_cons, List.map_nil, List.all_cons, List.all_nil, plainOb, SV.refsL, SV.refs, Ob.refs, X, F, List.range_succ, List.range_zero, List.nil_append, List.cons_append, List.isEmpty_nil, decide_true, Nat.reduceLT, Bool.and_self, Bool.and_true, and_self, and_true, List.getElem?_cons_zero, List.getElem?_cons_succ, List.nodup_cons, List.nodup_nil, List.mem_cons, List.not_mem_nil, not_false_eq_true, or_false, List.append_nil, mkO, setO_mk, List.mem_singleton]) (by simp [SV.tr, SV.trL])
theorem s_s_MostByNeed {P : Program} (hm : P.follows .mixedOrders = true) {Γ : Gam} (hΓ : GS P Γ) {n : FuncId} {f_l1In : FuncId} {f_l4Needs : FuncId} {f_countsOf : FuncId} {f_l4Key : FuncId} (is : Is P n (a_s_MostByNeed f_l1In f_l4Needs f_countsOf f_l4Key)) (h_l1In : Γ f_l1In = c_in) (h_l4Needs : Γ f_l4Needs = c_l4Needs) (h_countsOf : Γ f_countsOf = c_countsOf) (h_l4Key : Γ f_l4Key = c_l4Key)  : Says P n c_MostByNeed := by
  refine Says.pure fun args r fs h => ?_
  split at h
  case h_2 => cases h
  rename_i q m
  split at h
  case isFalse => cases h
  rename_i hc
  simp only [ofI_ints, ofBo_bools, ofAs_asks, Option.some.injEq, Prod.mk.injEq] at h hc
  obtain ⟨rfl, rfl⟩ := h
  cases h1 : (decide (0 ≤ q) && decide (q ≤ 20)) with
  | false =>
    refine is.go hm hΓ k_s_MostByNeed o_s_MostByNeed (by simp [a_s_MostByNeed]) ?_
    simp only [a_s_MostByNeed, h_l1In, c_in, h_l4Needs, c_l4Needs, h_countsOf, c_countsOf, h_l4Key, c_l4Key, h1, Bool.false_and, Bool.false_eq_true, List.zipIdx_cons, List.zipIdx_nil, ↓SP, SQ, Gam.add, stepM, callC, argC, lendO, nmBy, nmC, likeL, likeB, plainOb, offs, X, F, trP, trO, stepD, stepW, newA, SV.tr, SV.trL, fz, allP, Ob.tr, loadA, cellsA, SV.cells, binA, binI, eqOut, isSl, isPt, natOf, callee, snap, SV.refsL, SV.refs, thaw, fzAll, loA, hiA, elemOf, partsA, buildA, putCells, ↓reduceIte, reduceCtorEq, okCell, Nat.reduceAdd, Nat.reduceEqDiff, Nat.reduceSub, Nat.reduceMul, Nat.reduceLeDiff, Nat.reduceLT, Nat.reduceBEq, PV.scal, PV.scalL, SV.scal, SV.scalL, Ob.scal, PV.isCell, pure', resO]
    exact finA_val (by simp [retA, rvA, List.mapM_cons, List.mapM_nil, Option.pure_def, Option.bind_eq_bind, Option.bind_some, Option.map_some, mkE_cons, mk_nil, mkO_cons, mkO_nil, loadA, ↓reduceIte, List.take_succ_cons, List.take_zero, List.drop_zero, List.drop_succ_cons, List.length_cons, List.length_nil, Nat.reduceAdd, Nat.reduceEqDiff, Nat.reduceLeDiff, Nat.zero_add, Nat.le_refl, reduceCtorEq, SV.tr, SV.trL, nmF, rn_nil, rn_cons1, rn_cons2, List.map_cons, List.map_nil, List.all_cons, List.all_nil, plainOb, SV.refsL, SV.refs, Ob.refs, X, F, List.range_succ, List.range_zero, List.nil_append, List.cons_append, List.isEmpty_nil, decide_true, Nat.reduceLT, Bool.and_self, Bool.and_true, and_self, and_true, List.getElem?_cons_zero, List.getElem?_cons_succ, List.nodup_cons, List.nodup_nil, List.mem_cons, List.not_mem_nil, not_false_eq_true, or_false, List.append_nil, mkO, setO_mk, List.mem_singleton]) (by simp [SV.tr, SV.trL])
  | true =>
    cases h2 : (decide (0 ≤ m) && decide (m ≤ 2)) with
    | false =>
      refine is.go hm hΓ k_s_MostByNeed o_s_MostByNeed (by simp [a_s_MostByNeed]) ?_
      simp only [a_s_MostByNeed, h_l1In, c_in, h_l4Needs, c_l4Needs, h_countsOf, c_countsOf, h_l4Key, c_l4Key, h1, h2, Bool.and_false, Bool.false_eq_true, List.zipIdx_cons, List.zipIdx_nil, ↓SP, SQ, Gam.add, stepM, callC, argC, lendO, nmBy, nmC, likeL, likeB, plainOb, offs, X, F, trP, trO, stepD, stepW, newA, SV.tr, SV.trL, fz, allP, Ob.tr, loadA, cellsA, SV.cells, binA, binI, eqOut, isSl, isPt, natOf, callee, snap, SV.refsL, SV.refs, thaw, fzAll, loA, hiA, elemOf, partsA, buildA, putCells, ↓reduceIte, reduceCtorEq, okCell, Nat.reduceAdd, Nat.reduceEqDiff, Nat.reduceSub, Nat.reduceMul, Nat.reduceLeDiff, Nat.reduceLT, Nat.reduceBEq, PV.scal, PV.scalL, SV.scal, SV.scalL, Ob.scal, PV.isCell, pure', resO]
      exact finA_val (by simp [retA, rvA, List.mapM_cons, List.mapM_nil, Option.pure_def, Option.bind_eq_bind, Option.bind_some, Option.map_some, mkE_cons, mk_nil, mkO_cons, mkO_nil, loadA, ↓reduceIte, List.take_succ_cons, List.take_zero, List.drop_zero, List.drop_succ_cons, List.length_cons, List.length_nil, Nat.reduceAdd, Nat.reduceEqDiff, Nat.reduceLeDiff, Nat.zero_add, Nat.le_refl, reduceCtorEq, SV.tr, SV.trL, nmF, rn_nil, rn_cons1, rn_cons2, List.map_cons, List.map_nil, List.all_cons, List.all_nil, plainOb, SV.refsL, SV.refs, Ob.refs, X, F, List.range_succ, List.range_zero, List.nil_append, List.cons_append, List.isEmpty_nil, decide_true, Nat.reduceLT, Bool.and_self, Bool.and_true, and_self, and_true, List.getElem?_cons_zero, List.getElem?_cons_succ, List.nodup_cons, List.nodup_nil, List.mem_cons, List.not_mem_nil, not_false_eq_true, or_false, List.append_nil, mkO, setO_mk, List.mem_singleton]) (by simp [SV.tr, SV.trL])
    | true =>
      have hq2 : 0 ≤ m ∧ m ≤ 2 := by simpa using h2
      have hq0 : 0 ≤ q ∧ q ≤ 20 := by simpa using h1
      obtain ⟨mm, rfl⟩ : ∃ j : Nat, m = j := ⟨m.toNat, by omega⟩
      have hwm := wrap_one (i := mm) (by omega)
      have m1 : (1 : Int) ≤ ((mm + 1 : Nat) : Int) := by omega
      have m3 : ((mm + 1 : Nat) : Int) ≤ 3 := by omega
      refine is.go hm hΓ k_s_MostByNeed o_s_MostByNeed (by simp [a_s_MostByNeed]) ?_
      simp only [a_s_MostByNeed, h_l1In, c_in, h_l4Needs, c_l4Needs, h_countsOf, c_countsOf, h_l4Key, c_l4Key, h1, h2, hq2.1, hq2.2, hwm, m1, m3, Int.toNat_natCast, List.zipIdx_cons, List.zipIdx_nil, ↓SP, SQ, Gam.add, stepM, callC, argC, lendO, nmBy, nmC, likeL, likeB, plainOb, offs, X, F, trP, trO, stepD, stepW, newA, SV.tr, SV.trL, fz, allP, Ob.tr, loadA, cellsA, SV.cells, binA, binI, eqOut, isSl, isPt, natOf, callee, snap, SV.refsL, SV.refs, thaw, fzAll, loA, hiA, elemOf, partsA, buildA, putCells, ↓reduceIte, reduceCtorEq, okCell, Nat.reduceAdd, Nat.reduceEqDiff, Nat.reduceSub, Nat.reduceMul, Nat.reduceLeDiff, Nat.reduceLT, Nat.reduceBEq, PV.scal, PV.scalL, SV.scal, SV.scalL, Ob.scal, PV.isCell, pure', resO]
      refine loop_at (fun s : Nat × SV × SV => mkEnv [(0, si q), (1, si mm), (4, si 0), (5, sb false), (6, .p (.sl 1 (ints (tabK (ntT tabB) (mm + 1) 9)))), (7, si ((s.1 + 1 : Nat) : Int)), (15, sb false), (32, s.2.1)]) (fun s => mkO []) (fun s => s.1 ≤ 7 ∧ gF true mm (s.1 + 1) ≤ q) (fun s => 7 - s.1) (0, .junk, .junk) (by refine ⟨by simp only; omega, ?_⟩; rw [gF_1 true hq2]; exact hq0.1) rfl rfl ?_
      rintro ⟨n, c1, c2⟩ ⟨hn, hgn⟩ R0 hR hN
      simp only at hn hgn
      by_cases h : n < 7
      · have h3 : ((n + 1 : Nat) : Int) < 8 := by omega
        have hw := wrap_one (i := n + 1) (by omega)
        have hfo := fr_okC (n := n + 1 + 1) (m := mm) (by omega) hq2
        obtain ⟨⟨f1, f3⟩, f8, _⟩ := okC_out hfo
        have hfl : (frL ((n + 1 + 1 : Nat) : Int) mm).length = mm + 1 := by simp [frL]
        obtain ⟨k0, k1⟩ := keyN_bd (p := mm + 1) hfl f8
        have hkk : (keyL (frL ((n + 1 + 1 : Nat) : Int) mm)).toNat = keyN (frL ((n + 1 + 1 : Nat) : Int) mm) := rfl
        have hg := ints_get (l := tabK (ntT tabB) (mm + 1) 9) (i := keyN (frL ((n + 1 + 1 : Nat) : Int) mm)) (by rw [tabK_len]; exact k1)
        have htn := (tab_nd hfo).1
        rw [hfl] at htn
        have htn2 : (tabK (ntT tabB) (mm + 1) 9).getD (keyN (frL ((n + 1 + 1 : Nat) : Int) mm)) 0 = gF true mm (n + 1 + 1) := htn
        rw [htn2] at hg
        by_cases hq : gF true mm (n + 1 + 1) ≤ q
        · simp only [h3, hw, hq2, f3, f8, k0, hkk, hg, hq, h_countsOf, c_countsOf, h_l4Key, c_l4Key, isI_ints, ofI_ints, ↓SP, SQ, Gam.add, stepM, callC, argC, lendO, nmBy, nmC, likeL, likeB, plainOb, offs, X, F, trP, trO, stepD, stepW, newA, SV.tr, SV.trL, fz, allP, Ob.tr, loadA, cellsA, SV.cells, binA, binI, eqOut, isSl, isPt, natOf, callee, snap, SV.refsL, SV.refs, thaw, fzAll, loA, hiA, elemOf, partsA, buildA, putCells, ↓reduceIte, reduceCtorEq, okCell, Nat.reduceAdd, Nat.reduceEqDiff, Nat.reduceSub, Nat.reduceMul, Nat.reduceLeDiff, Nat.reduceLT, Nat.reduceBEq, PV.scal, PV.scalL, SV.scal, SV.scalL, Ob.scal, PV.isCell, pure', resO]
          exact hN (n + 1, _, .junk) _ _ ⟨by simp only; omega, hq⟩ (by simp only; omega) rfl rfl
        · have hmo : moF (gF true mm) q 9 = ((n + 1 : Nat) : Int) := moF_mono hgn (by omega) (gF_mono true hq2) (.inr (by omega))
          simp only [h3, hw, hq2, f3, f8, k0, hkk, hg, hq, h_countsOf, c_countsOf, h_l4Key, c_l4Key, isI_ints, ofI_ints, ↓SP, SQ, Gam.add, stepM, callC, argC, lendO, nmBy, nmC, likeL, likeB, plainOb, offs, X, F, trP, trO, stepD, stepW, newA, SV.tr, SV.trL, fz, allP, Ob.tr, loadA, cellsA, SV.cells, binA, binI, eqOut, isSl, isPt, natOf, callee, snap, SV.refsL, SV.refs, thaw, fzAll, loA, hiA, elemOf, partsA, buildA, putCells, ↓reduceIte, reduceCtorEq, okCell, Nat.reduceAdd, Nat.reduceEqDiff, Nat.reduceSub, Nat.reduceMul, Nat.reduceLeDiff, Nat.reduceLT, Nat.reduceBEq, PV.scal, PV.scalL, SV.scal, SV.scalL, Ob.scal, PV.isCell, pure', resO]
          refine hR _ _ _ (by intro h; cases h) ?_
          simp only [↓SP, SQ, Gam.add, stepM, callC, argC, lendO, nmBy, nmC, likeL, likeB, plainOb, offs, X, F, trP, trO, stepD, stepW, newA, SV.tr, SV.trL, fz, allP, Ob.tr, loadA, cellsA, SV.cells, binA, binI, eqOut, isSl, isPt, natOf, callee, snap, SV.refsL, SV.refs, thaw, fzAll, loA, hiA, elemOf, partsA, buildA, putCells, ↓reduceIte, reduceCtorEq, okCell, Nat.reduceAdd, Nat.reduceEqDiff, Nat.reduceSub, Nat.reduceMul, Nat.reduceLeDiff, Nat.reduceLT, Nat.reduceBEq, PV.scal, PV.scalL, SV.scal, SV.scalL, Ob.scal, PV.isCell, pure', resO]
          exact finA_val (by simp [hmo, retA, rvA, List.mapM_cons, List.mapM_nil, Option.pure_def, Option.bind_eq_bind, Option.bind_some, Option.map_some, mkE_cons, mk_nil, mkO_cons, mkO_nil, loadA, ↓reduceIte, List.take_succ_cons, List.take_zero, List.drop_zero, List.drop_succ_cons, List.length_cons, List.length_nil, Nat.reduceAdd, Nat.reduceEqDiff, Nat.reduceLeDiff, Nat.zero_add, Nat.le_refl, reduceCtorEq, SV.tr, SV.trL, nmF, rn_nil, rn_cons1, rn_cons2, List.map_cons, List.map_nil, List.all_cons, List.all_nil, plainOb, SV.refsL, SV.refs, Ob.refs, X, F, List.range_succ, List.range_zero, List.nil_append, List.cons_append, List.isEmpty_nil, decide_true, Nat.reduceLT, Bool.and_self, Bool.and_true, and_self, and_true, List.getElem?_cons_zero, List.getElem?_cons_succ, List.nodup_cons, List.nodup_nil, List.mem_cons, List.not_mem_nil, not_false_eq_true, or_false, List.append_nil, mkO, setO_mk, List.mem_singleton]) (by simp [SV.tr, SV.trL])
      · have he : n = 7 := by omega
        subst he
        have h3 : ¬ ((7 + 1 : Nat) : Int) < 8 := by omega
        have hmo : moF (gF true mm) q 9 = ((7 + 1 : Nat) : Int) := moF_mono hgn (by omega) (gF_mono true hq2) (.inl rfl)
        simp only [h3, ↓SP, SQ, Gam.add, stepM, callC, argC, lendO, nmBy, nmC, likeL, likeB, plainOb, offs, X, F, trP, trO, stepD, stepW, newA, SV.tr, SV.trL, fz, allP, Ob.tr, loadA, cellsA, SV.cells, binA, binI, eqOut, isSl, isPt, natOf, callee, snap, SV.refsL, SV.refs, thaw, fzAll, loA, hiA, elemOf, partsA, buildA, putCells, ↓reduceIte, reduceCtorEq, okCell, Nat.reduceAdd, Nat.reduceEqDiff, Nat.reduceSub, Nat.reduceMul, Nat.reduceLeDiff, Nat.reduceLT, Nat.reduceBEq, PV.scal, PV.scalL, SV.scal, SV.scalL, Ob.scal, PV.isCell, pure', resO]
        refine hR _ _ _ (by intro h; cases h) ?_
        simp only [↓SP, SQ, Gam.add, stepM, callC, argC, lendO, nmBy, nmC, likeL, likeB, plainOb, offs, X, F, trP, trO, stepD, stepW, newA, SV.tr, SV.trL, fz, allP, Ob.tr, loadA, cellsA, SV.cells, binA, binI, eqOut, isSl, isPt, natOf, callee, snap, SV.refsL, SV.refs, thaw, fzAll, loA, hiA, elemOf, partsA, buildA, putCells, ↓reduceIte, reduceCtorEq, okCell, Nat.reduceAdd, Nat.reduceEqDiff, Nat.reduceSub, Nat.reduceMul, Nat.reduceLeDiff, Nat.reduceLT, Nat.reduceBEq, PV.scal, PV.scalL, SV.scal, SV.scalL, Ob.scal, PV.isCell, pure', resO]
        exact finA_val (by simp [hmo, retA, rvA, List.mapM_cons, List.mapM_nil, Option.pure_def, Option.bind_eq_bind, Option.bind_some, Option.map_some, mkE_cons, mk_nil, mkO_cons, mkO_nil, loadA, ↓reduceIte, List.take_succ_cons, List.take_zero, List.drop_zero, List.drop_succ_cons, List.length_cons, List.length_nil, Nat.reduceAdd, Nat.reduceEqDiff, Nat.reduceLeDiff, Nat.zero_add, Nat.le_refl, reduceCtorEq, SV.tr, SV.trL, nmF, rn_nil, rn_cons1, rn_cons2, List.map_cons, List.map_nil, List.all_cons, List.all_nil, plainOb, SV.refsL, SV.refs, Ob.refs, X, F, List.range_succ, List.range_zero, List.nil_append, List.cons_append, List.isEmpty_nil, decide_true, Nat.reduceLT, Bool.and_self, Bool.and_true, and_self, and_true, List.getElem?_cons_zero, List.getElem?_cons_succ, List.nodup_cons, List.nodup_nil, List.mem_cons, List.not_mem_nil, not_false_eq_true, or_false, List.append_nil, mkO, setO_mk, List.mem_singleton]) (by simp [SV.tr, SV.trL])
def a_NeedTable (f_isMost : FuncId) (f_neederOf : FuncId) (f_bothWays : FuncId) (f_nTable : FuncId) : AFn := ⟨1, 
  .seq (.reg [⟨some 2, none, .d (.mv (.c (.nilsl)))⟩,
    ⟨some 3, none, .d (.mv (.c (.bool false)))⟩])
  (.seq (.seq (.reg [⟨some 4, none, .d (.mv (.t 0))⟩,
    ⟨some 5, none, .d (.call (.f f_isMost) [(.t 4)])⟩,
    ⟨some 6, none, .d (.not (.t 5))⟩])
  (.cond (.t 6) (.seq (.reg [⟨some 2, none, .d (.mv (.c (.nilsl)))⟩,
     ⟨some 3, none, .d (.mv (.c (.bool false)))⟩])
   (.ret)) (.skip)))
  (.seq (.reg [⟨some 7, none, .d (.call (.f f_neederOf) [(.f f_bothWays)])⟩,
    ⟨some 8, none, .d (.mv (.t 0))⟩,
    ⟨some 9, none, .w (.callL (.f f_nTable) [(.t 7), (.t 8)] [] 1 false)⟩,
    ⟨some 2, none, .d (.mv (.t 9))⟩,
    ⟨some 3, none, .d (.mv (.c (.bool true)))⟩])
  (.ret))), [.tmp 2, .tmp 3]⟩
def n_NeedTable : Nat → Option Ann := fun d => if d = 9 then some ⟨[], 1, false⟩ else none
abbrev k_NeedTable : List Nat := [0, 2, 3, 6]
abbrev o_NeedTable : List Nat := [9]
def a_s_NeedTable (f_l1In : FuncId) (f_l4Needs : FuncId) (f_countsOf : FuncId) (f_l4Key : FuncId) : AFn := ⟨1, 
  .seq (.reg [⟨some 2, none, .d (.mv (.c (.nilsl)))⟩,
    ⟨some 3, none, .d (.mv (.c (.bool false)))⟩])
  (.seq (.reg [⟨some 7, none, .w (.bslice 1 [] [])⟩,
    ⟨some 4, none, .d (.mv (.t 7))⟩])
  (.seq (.seq (.reg [⟨some 8, none, .d (.mv (.t 0))⟩,
    ⟨some 9, none, .d (.call (.f f_l1In) [(.t 8), (.c (.int .i64 0)), (.c (.int .i64 2))])⟩,
    ⟨some 10, none, .d (.not (.t 9))⟩])
  (.cond (.t 10) (.seq (.reg [⟨some 11, none, .d (.mv (.t 4))⟩,
     ⟨some 2, none, .d (.mv (.t 11))⟩,
     ⟨some 3, none, .d (.mv (.c (.bool false)))⟩])
   (.ret)) (.skip)))
  (.seq (.reg [⟨some 12, none, .d (.mv (.t 0))⟩,
    ⟨some 13, none, .d (.bin .arith .add (.t 12) (.c (.int .i64 1)))⟩,
    ⟨some 14, none, .d (.call (.f f_l4Needs) [(.t 13)])⟩,
    ⟨some 5, none, .d (.mv (.t 14))⟩])
  (.seq (.seq (.reg [⟨some 6, none, .d (.mv (.c (.int .i64 1)))⟩])
  (.block 0 (.loop (.seq (.seq (.reg [⟨some 15, none, .d (.mv (.t 6))⟩,
      ⟨some 16, none, .d (.bin .arith .leq (.t 15) (.c (.int .i64 8)))⟩])
    (.cond (.t 16) (.skip) (.exit 0)))
    (.seq (.block 1 (.reg [⟨some 19, none, .d (.mv (.t 4))⟩,
       ⟨some 20, none, .d (.mv (.t 5))⟩,
       ⟨some 21, none, .d (.mv (.t 6))⟩,
       ⟨some 22, none, .d (.mv (.t 0))⟩,
       ⟨some 23, none, .d (.call (.f f_countsOf) [(.t 21), (.t 22)])⟩,
       ⟨some 24, none, .d (.call (.f f_l4Key) [(.t 23)])⟩,
       ⟨some 25, none, .d (.ia 1 (.t 20) (.t 24))⟩,
       ⟨some 26, none, .d (.load false 1 (.t 25))⟩,
       ⟨some 27, none, .w (.bslice 1 [.int .i64 0] [(0, (.t 26))])⟩,
       ⟨some 28, none, .w (.append 1 (.t 19) (.t 27))⟩,
       ⟨some 4, none, .d (.mv (.t 28))⟩]))
    (.reg [⟨some 17, none, .d (.mv (.t 6))⟩,
      ⟨some 18, none, .d (.bin .arith .add (.t 17) (.c (.int .i64 1)))⟩,
      ⟨some 6, none, .d (.mv (.t 18))⟩]))))))
  (.seq (.reg [⟨some 29, none, .d (.mv (.t 4))⟩,
    ⟨some 2, none, .d (.mv (.t 29))⟩,
    ⟨some 3, none, .d (.mv (.c (.bool true)))⟩])
  (.ret)))))), [.tmp 2, .tmp 3]⟩
def n_s_NeedTable : Nat → Option Ann := fun _ => none
abbrev k_s_NeedTable : List Nat := [0, 2, 3, 4, 5, 6, 10, 16]
abbrev o_s_NeedTable : List Nat := [7, 27, 28]
def c_NeedTable : Con := pure' fun
  | [.p (.int .i64 m)] => if (True) then some (if (decide (0 ≤ m) && decide (m ≤ 2)) = true then .tp [.ar 2000000, .p (.bool true)] else .tp [.p .nilsl, .p (.bool false)], if (decide (0 ≤ m) && decide (m ≤ 2)) = true then [.arr 1 (ints (taF (gF true m) 8))] else []) else none
  | _ => none
theorem s_NeedTable {P : Program} (hm : P.follows .mixedOrders = true) {Γ : Gam} (hΓ : GS P Γ) {n : FuncId} {f_isMost : FuncId} {f_neederOf : FuncId} {f_bothWays : FuncId} {f_nTable : FuncId} (is : Is P n (a_NeedTable f_isMost f_neederOf f_bothWays f_nTable)) (h_isMost : Γ f_isMost = c_isMost) (h_nTable : Γ f_nTable = c_nTable) {Γ1 : Gam} (h_neederOf : Γ f_neederOf = c_neederOf Γ1) (h_bothWays : Γ1 f_bothWays = c_bothWays) : Says P n c_NeedTable := by
  refine Says.pure fun args r fs h => ?_
  split at h
  case h_2 => cases h
  rename_i m
  split at h
  case isFalse => cases h
  rename_i hc
  simp only [ofI_ints, ofBo_bools, ofAs_asks, Option.some.injEq, Prod.mk.injEq] at h hc
  obtain ⟨rfl, rfl⟩ := h
  cases h2 : (decide (0 ≤ m) && decide (m ≤ 2)) with
  | false =>
    refine is.go hm hΓ k_NeedTable o_NeedTable (by simp [a_NeedTable]) ?_
    simp only [a_NeedTable, h_isMost, c_isMost, h_nTable, c_nTable, h2, Bool.false_eq_true, List.zipIdx_cons, List.zipIdx_nil, ↓SP, SQ, Gam.add, stepM, callC, argC, lendO, nmBy, nmC, likeL, likeB, plainOb, offs, X, F, trP, trO, stepD, stepW, newA, SV.tr, SV.trL, fz, allP, Ob.tr, loadA, cellsA, SV.cells, binA, binI, eqOut, isSl, isPt, natOf, callee, snap, SV.refsL, SV.refs, thaw, fzAll, loA, hiA, elemOf, partsA, buildA, putCells, ↓reduceIte, reduceCtorEq, okCell, Nat.reduceAdd, Nat.reduceEqDiff, Nat.reduceSub, Nat.reduceMul, Nat.reduceLeDiff, Nat.reduceLT, Nat.reduceBEq, PV.scal, PV.scalL, SV.scal, SV.scalL, Ob.scal, PV.isCell, pure', resO]
    refine finA_gen [] trivial (by simp [retA, rvA, List.mapM_cons, List.mapM_nil, Option.pure_def, Option.bind_eq_bind, Option.bind_some, Option.map_some, mkE_cons, mk_nil, mkO_cons, mkO_nil, loadA, ↓reduceIte, List.take_succ_cons, List.take_zero, List.drop_zero, List.drop_succ_cons, List.length_cons, List.length_nil, Nat.reduceAdd, Nat.reduceEqDiff, Nat.reduceLeDiff, Nat.zero_add, Nat.le_refl, reduceCtorEq, SV.tr, SV.trL, nmF, rn_nil, rn_cons1, rn_cons2, List.map_cons, List.map_nil, List.all_cons, List.all_nil, plainOb, SV.refsL, SV.refs, Ob.refs, X, F, List.range_succ, List.range_zero, List.nil_append, List.cons_append, List.isEmpty_nil, decide_true, Nat.reduceLT, Bool.and_self, Bool.and_true, and_self, and_true, List.getElem?_cons_zero, List.getElem?_cons_succ, List.nodup_cons, List.nodup_nil, List.mem_cons, List.not_mem_nil, not_false_eq_true, or_false, List.append_nil, mkO, setO_mk, List.mem_singleton]; rfl) ?_ ?_ ?_ ?_ ?_ ?_ ?_ <;> simp [retA, rvA, List.mapM_cons, List.mapM_nil, Option.pure_def, Option.bind_eq_bind, Option.bind_some, Option.map_some, mkE_cons, mk_nil, mkO_cons, mkO_nil, loadA, ↓reduceIte, List.take_succ_cons, List.take_zero, List.drop_zero, List.drop_succ_cons, List.length_cons, List.length_nil, Nat.reduceAdd, Nat.reduceEqDiff, Nat.reduceLeDiff, Nat.zero_add, Nat.le_refl, reduceCtorEq, SV.tr, SV.trL, nmF, rn_nil, rn_cons1, rn_cons2, List.map_cons, List.map_nil, List.all_cons, List.all_nil, plainOb, SV.refsL, SV.refs, Ob.refs, X, F, List.range_succ, List.range_zero, List.nil_append, List.cons_append, List.isEmpty_nil, decide_true, Nat.reduceLT, Bool.and_self, Bool.and_true, and_self, and_true, List.getElem?_cons_zero, List.getElem?_cons_succ, List.nodup_cons, List.nodup_nil, List.mem_cons, List.not_mem_nil, not_false_eq_true, or_false, List.append_nil, mkO, setO_mk, List.mem_singleton]
  | true =>
    have hq2 : 0 ≤ m ∧ m ≤ 2 := by simpa using h2
    have hne := neederOf_both h_bothWays
    have hE := okE_nES true
    have hta : taF (fun k => ofE (nES true) (frL (k : Nat) m)) 8 = taF (gF true m) 8 := taF_congr fun k hk => ofE_nES true (fr_okC (by omega) hq2)
    refine is.go hm hΓ k_NeedTable o_NeedTable (by simp [a_NeedTable]) ?_
    simp only [a_NeedTable, h_isMost, c_isMost, h_nTable, c_nTable, h2, hq2, h_neederOf, hne, hE, hta, List.zipIdx_cons, List.zipIdx_nil, ↓SP, SQ, Gam.add, stepM, callC, argC, lendO, nmBy, nmC, likeL, likeB, plainOb, offs, X, F, trP, trO, stepD, stepW, newA, SV.tr, SV.trL, fz, allP, Ob.tr, loadA, cellsA, SV.cells, binA, binI, eqOut, isSl, isPt, natOf, callee, snap, SV.refsL, SV.refs, thaw, fzAll, loA, hiA, elemOf, partsA, buildA, putCells, ↓reduceIte, reduceCtorEq, okCell, Nat.reduceAdd, Nat.reduceEqDiff, Nat.reduceSub, Nat.reduceMul, Nat.reduceLeDiff, Nat.reduceLT, Nat.reduceBEq, PV.scal, PV.scalL, SV.scal, SV.scalL, Ob.scal, PV.isCell, pure', resO]
    refine finA_gen [9] trivial (by simp [retA, rvA, List.mapM_cons, List.mapM_nil, Option.pure_def, Option.bind_eq_bind, Option.bind_some, Option.map_some, mkE_cons, mk_nil, mkO_cons, mkO_nil, loadA, ↓reduceIte, List.take_succ_cons, List.take_zero, List.drop_zero, List.drop_succ_cons, List.length_cons, List.length_nil, Nat.reduceAdd, Nat.reduceEqDiff, Nat.reduceLeDiff, Nat.zero_add, Nat.le_refl, reduceCtorEq, SV.tr, SV.trL, nmF, rn_nil, rn_cons1, rn_cons2, List.map_cons, List.map_nil, List.all_cons, List.all_nil, plainOb, SV.refsL, SV.refs, Ob.refs, X, F, List.range_succ, List.range_zero, List.nil_append, List.cons_append, List.isEmpty_nil, decide_true, Nat.reduceLT, Bool.and_self, Bool.and_true, and_self, and_true, List.getElem?_cons_zero, List.getElem?_cons_succ, List.nodup_cons, List.nodup_nil, List.mem_cons, List.not_mem_nil, not_false_eq_true, or_false, List.append_nil, mkO, setO_mk, List.mem_singleton]; rfl) ?_ ?_ ?_ ?_ ?_ ?_ ?_ <;> simp [retA, rvA, List.mapM_cons, List.mapM_nil, Option.pure_def, Option.bind_eq_bind, Option.bind_some, Option.map_some, mkE_cons, mk_nil, mkO_cons, mkO_nil, loadA, ↓reduceIte, List.take_succ_cons, List.take_zero, List.drop_zero, List.drop_succ_cons, List.length_cons, List.length_nil, Nat.reduceAdd, Nat.reduceEqDiff, Nat.reduceLeDiff, Nat.zero_add, Nat.le_refl, reduceCtorEq, SV.tr, SV.trL, nmF, rn_nil, rn_cons1, rn_cons2, List.map_cons, List.map_nil, List.all_cons, List.all_nil, plainOb, SV.refsL, SV.refs, Ob.refs, X, F, List.range_succ, List.range_zero, List.nil_append, List.cons_append, List.isEmpty_nil, decide_true, Nat.reduceLT, Bool.and_self, Bool.and_true, and_self, and_true, List.getElem?_cons_zero, List.getElem?_cons_succ, List.nodup_cons, List.nodup_nil, List.mem_cons, List.not_mem_nil, not_false_eq_true, or_false, List.append_nil, mkO, setO_mk, List.mem_singleton]
def c_s_NeedTable : Con := pure' fun
  | [.p (.int .i64 m)] => if (True) then some (.tp [.ar 2000000, .p (.bool (decide (0 ≤ m) && decide (m ≤ 2)))], [.arr 1 (ints (if (decide (0 ≤ m) && decide (m ≤ 2)) = true then taF (gF true m) 8 else []))]) else none
  | _ => none
theorem s_s_NeedTable {P : Program} (hm : P.follows .mixedOrders = true) {Γ : Gam} (hΓ : GS P Γ) {n : FuncId} {f_l1In : FuncId} {f_l4Needs : FuncId} {f_countsOf : FuncId} {f_l4Key : FuncId} (is : Is P n (a_s_NeedTable f_l1In f_l4Needs f_countsOf f_l4Key)) (h_l1In : Γ f_l1In = c_in) (h_l4Needs : Γ f_l4Needs = c_l4Needs) (h_countsOf : Γ f_countsOf = c_countsOf) (h_l4Key : Γ f_l4Key = c_l4Key)  : Says P n c_s_NeedTable := by
  refine Says.pure fun args r fs h => ?_
  split at h
  case h_2 => cases h
  rename_i m
  split at h
  case isFalse => cases h
  rename_i hc
  simp only [ofI_ints, ofBo_bools, ofAs_asks, Option.some.injEq, Prod.mk.injEq] at h hc
  obtain ⟨rfl, rfl⟩ := h
  cases h2 : (decide (0 ≤ m) && decide (m ≤ 2)) with
  | false =>
    refine is.go hm hΓ k_s_NeedTable o_s_NeedTable (by simp [a_s_NeedTable]) ?_
    simp only [a_s_NeedTable, h_l1In, c_in, h_l4Needs, c_l4Needs, h_countsOf, c_countsOf, h_l4Key, c_l4Key, h2, Bool.false_eq_true, List.zipIdx_cons, List.zipIdx_nil, ↓SP, SQ, Gam.add, stepM, callC, argC, lendO, nmBy, nmC, likeL, likeB, plainOb, offs, X, F, trP, trO, stepD, stepW, newA, SV.tr, SV.trL, fz, allP, Ob.tr, loadA, cellsA, SV.cells, binA, binI, eqOut, isSl, isPt, natOf, callee, snap, SV.refsL, SV.refs, thaw, fzAll, loA, hiA, elemOf, partsA, buildA, putCells, ↓reduceIte, reduceCtorEq, okCell, Nat.reduceAdd, Nat.reduceEqDiff, Nat.reduceSub, Nat.reduceMul, Nat.reduceLeDiff, Nat.reduceLT, Nat.reduceBEq, PV.scal, PV.scalL, SV.scal, SV.scalL, Ob.scal, PV.isCell, pure', resO]
    refine finA_gen [7] trivial (by simp [retA, rvA, List.mapM_cons, List.mapM_nil, Option.pure_def, Option.bind_eq_bind, Option.bind_some, Option.map_some, mkE_cons, mk_nil, mkO_cons, mkO_nil, loadA, ↓reduceIte, List.take_succ_cons, List.take_zero, List.drop_zero, List.drop_succ_cons, List.length_cons, List.length_nil, Nat.reduceAdd, Nat.reduceEqDiff, Nat.reduceLeDiff, Nat.zero_add, Nat.le_refl, reduceCtorEq, SV.tr, SV.trL, nmF, rn_nil, rn_cons1, rn_cons2, List.map_cons, List.map_nil, List.all_cons, List.all_nil, plainOb, SV.refsL, SV.refs, Ob.refs, X, F, List.range_succ, List.range_zero, List.nil_append, List.cons_append, List.isEmpty_nil, decide_true, Nat.reduceLT, Bool.and_self, Bool.and_true, and_self, and_true, List.getElem?_cons_zero, List.getElem?_cons_succ, List.nodup_cons, List.nodup_nil, List.mem_cons, List.not_mem_nil, not_false_eq_true, or_false, List.append_nil, mkO, setO_mk, List.mem_singleton]; rfl) ?_ ?_ ?_ ?_ ?_ ?_ ?_ <;> simp [ints, retA, rvA, List.mapM_cons, List.mapM_nil, Option.pure_def, Option.bind_eq_bind, Option.bind_some, Option.map_some, mkE_cons, mk_nil, mkO_cons, mkO_nil, loadA, ↓reduceIte, List.take_succ_cons, List.take_zero, List.drop_zero, List.drop_succ_cons, List.length_cons, List.length_nil, Nat.reduceAdd, Nat.reduceEqDiff, Nat.reduceLeDiff, Nat.zero_add, Nat.le_refl, reduceCtorEq, SV.tr, SV.trL, nmF, rn_nil, rn_cons1, rn_cons2, List.map_cons, List.map_nil, List.all_cons, List.all_nil, plainOb, SV.refsL, SV.refs, Ob.refs, X, F, List.range_succ, List.range_zero, List.nil_append, List.cons_append, List.isEmpty_nil, decide_true, Nat.reduceLT, Bool.and_self, Bool.and_true, and_self, and_true, List.getElem?_cons_zero, List.getElem?_cons_succ, List.nodup_cons, List.nodup_nil, List.mem_cons, List.not_mem_nil, not_false_eq_true, or_false, List.append_nil, mkO, setO_mk, List.mem_singleton]
  | true =>
    have hq2 : 0 ≤ m ∧ m ≤ 2 := by simpa using h2
    obtain ⟨mm, rfl⟩ : ∃ j : Nat, m = j := ⟨m.toNat, by omega⟩
    have hwm := wrap_one (i := mm) (by omega)
    have m1 : (1 : Int) ≤ ((mm + 1 : Nat) : Int) := by omega
    have m3 : ((mm + 1 : Nat) : Int) ≤ 3 := by omega
    refine is.go hm hΓ k_s_NeedTable o_s_NeedTable (by simp [a_s_NeedTable]) ?_
    simp only [a_s_NeedTable, h_l1In, c_in, h_l4Needs, c_l4Needs, h_countsOf, c_countsOf, h_l4Key, c_l4Key, h2, hq2.1, hq2.2, hwm, m1, m3, Int.toNat_natCast, List.zipIdx_cons, List.zipIdx_nil, ↓SP, SQ, Gam.add, stepM, callC, argC, lendO, nmBy, nmC, likeL, likeB, plainOb, offs, X, F, trP, trO, stepD, stepW, newA, SV.tr, SV.trL, fz, allP, Ob.tr, loadA, cellsA, SV.cells, binA, binI, eqOut, isSl, isPt, natOf, callee, snap, SV.refsL, SV.refs, thaw, fzAll, loA, hiA, elemOf, partsA, buildA, putCells, ↓reduceIte, reduceCtorEq, okCell, Nat.reduceAdd, Nat.reduceEqDiff, Nat.reduceSub, Nat.reduceMul, Nat.reduceLeDiff, Nat.reduceLT, Nat.reduceBEq, PV.scal, PV.scalL, SV.scal, SV.scalL, Ob.scal, PV.isCell, pure', resO]
    refine loop_at (fun s : Nat × SV × Option Ob => mkEnv [(0, si mm), (2, .p .nilsl), (3, sb false), (4, .ar 7), (5, .p (.sl 1 (ints (tabK (ntT tabB) (mm + 1) 9)))), (6, si ((s.1 + 1 : Nat) : Int)), (10, sb false), (16, s.2.1)]) (fun s => mkO [(7, some (.arr 1 (ints (taF (gF true mm) s.1)))), (27, s.2.2), (28, none)]) (fun s => s.1 ≤ 8) (fun s => 8 - s.1) (0, .junk, none) (by simp) rfl rfl ?_
    rintro ⟨n, c1, ob⟩ hn R0 hR hN
    simp only at hn
    by_cases h : n < 8
    · have h3 : ((n + 1 : Nat) : Int) ≤ 8 := by omega
      have hw := wrap_one (i := n + 1) (by omega)
      have hfo := fr_okC (n := n + 1) (m := mm) (by omega) hq2
      obtain ⟨⟨f1, f3⟩, f8, _⟩ := okC_out hfo
      have hfl : (frL ((n + 1 : Nat) : Int) mm).length = mm + 1 := by simp [frL]
      obtain ⟨k0, k1⟩ := keyN_bd (p := mm + 1) hfl f8
      have hkk : (keyL (frL ((n + 1 : Nat) : Int) mm)).toNat = keyN (frL ((n + 1 : Nat) : Int) mm) := rfl
      have hg := ints_get (l := tabK (ntT tabB) (mm + 1) 9) (i := keyN (frL ((n + 1 : Nat) : Int) mm)) (by rw [tabK_len]; exact k1)
      have htn := (tab_nd hfo).1
      rw [hfl] at htn
      have htn2 : (tabK (ntT tabB) (mm + 1) 9).getD (keyN (frL ((n + 1 : Nat) : Int) mm)) 0 = gF true mm (n + 1) := htn
      rw [htn2] at hg
      have hta := taF_one (gF true mm) n
      have hr : (taF (gF true mm) n).length + 1 ≤ roomA := by rw [taF_len]; unfold roomA; omega
      simp only [h3, hw, hq2, f3, f8, k0, hkk, hg, hta, hr, ints_len, ints_app1, ints_cell, h_countsOf, c_countsOf, h_l4Key, c_l4Key, isI_ints, ofI_ints, ↓SP, SQ, Gam.add, stepM, callC, argC, lendO, nmBy, nmC, likeL, likeB, plainOb, offs, X, F, trP, trO, stepD, stepW, newA, SV.tr, SV.trL, fz, allP, Ob.tr, loadA, cellsA, SV.cells, binA, binI, eqOut, isSl, isPt, natOf, callee, snap, SV.refsL, SV.refs, thaw, fzAll, loA, hiA, elemOf, partsA, buildA, putCells, ↓reduceIte, reduceCtorEq, okCell, Nat.reduceAdd, Nat.reduceEqDiff, Nat.reduceSub, Nat.reduceMul, Nat.reduceLeDiff, Nat.reduceLT, Nat.reduceBEq, PV.scal, PV.scalL, SV.scal, SV.scalL, Ob.scal, PV.isCell, pure', resO]
      exact hN (n + 1, _, _) _ _ (by simp only; omega) (by simp only; omega) rfl rfl
    · have he : n = 8 := by omega
      subst he
      have h3 : ¬ ((8 + 1 : Nat) : Int) ≤ 8 := by omega
      simp only [h3, ↓SP, SQ, Gam.add, stepM, callC, argC, lendO, nmBy, nmC, likeL, likeB, plainOb, offs, X, F, trP, trO, stepD, stepW, newA, SV.tr, SV.trL, fz, allP, Ob.tr, loadA, cellsA, SV.cells, binA, binI, eqOut, isSl, isPt, natOf, callee, snap, SV.refsL, SV.refs, thaw, fzAll, loA, hiA, elemOf, partsA, buildA, putCells, ↓reduceIte, reduceCtorEq, okCell, Nat.reduceAdd, Nat.reduceEqDiff, Nat.reduceSub, Nat.reduceMul, Nat.reduceLeDiff, Nat.reduceLT, Nat.reduceBEq, PV.scal, PV.scalL, SV.scal, SV.scalL, Ob.scal, PV.isCell, pure', resO]
      refine hR _ _ _ (by intro h; cases h) ?_
      simp only [↓SP, SQ, Gam.add, stepM, callC, argC, lendO, nmBy, nmC, likeL, likeB, plainOb, offs, X, F, trP, trO, stepD, stepW, newA, SV.tr, SV.trL, fz, allP, Ob.tr, loadA, cellsA, SV.cells, binA, binI, eqOut, isSl, isPt, natOf, callee, snap, SV.refsL, SV.refs, thaw, fzAll, loA, hiA, elemOf, partsA, buildA, putCells, ↓reduceIte, reduceCtorEq, okCell, Nat.reduceAdd, Nat.reduceEqDiff, Nat.reduceSub, Nat.reduceMul, Nat.reduceLeDiff, Nat.reduceLT, Nat.reduceBEq, PV.scal, PV.scalL, SV.scal, SV.scalL, Ob.scal, PV.isCell, pure', resO]
      refine finA_gen [7] trivial (by simp [retA, rvA, List.mapM_cons, List.mapM_nil, Option.pure_def, Option.bind_eq_bind, Option.bind_some, Option.map_some, mkE_cons, mk_nil, mkO_cons, mkO_nil, loadA, ↓reduceIte, List.take_succ_cons, List.take_zero, List.drop_zero, List.drop_succ_cons, List.length_cons, List.length_nil, Nat.reduceAdd, Nat.reduceEqDiff, Nat.reduceLeDiff, Nat.zero_add, Nat.le_refl, reduceCtorEq, SV.tr, SV.trL, nmF, rn_nil, rn_cons1, rn_cons2, List.map_cons, List.map_nil, List.all_cons, List.all_nil, plainOb, SV.refsL, SV.refs, Ob.refs, X, F, List.range_succ, List.range_zero, List.nil_append, List.cons_append, List.isEmpty_nil, decide_true, Nat.reduceLT, Bool.and_self, Bool.and_true, and_self, and_true, List.getElem?_cons_zero, List.getElem?_cons_succ, List.nodup_cons, List.nodup_nil, List.mem_cons, List.not_mem_nil, not_false_eq_true, or_false, List.append_nil, mkO, setO_mk, List.mem_singleton]; rfl) ?_ ?_ ?_ ?_ ?_ ?_ ?_ <;> simp [retA, rvA, List.mapM_cons, List.mapM_nil, Option.pure_def, Option.bind_eq_bind, Option.bind_some, Option.map_some, mkE_cons, mk_nil, mkO_cons, mkO_nil, loadA, ↓reduceIte, List.take_succ_cons, List.take_zero, List.drop_zero, List.drop_succ_cons, List.length_cons, List.length_nil, Nat.reduceAdd, Nat.reduceEqDiff, Nat.reduceLeDiff, Nat.zero_add, Nat.le_refl, reduceCtorEq, SV.tr, SV.trL, nmF, rn_nil, rn_cons1, rn_cons2, List.map_cons, List.map_nil, List.all_cons, List.all_nil, plainOb, SV.refsL, SV.refs, Ob.refs, X, F, List.range_succ, List.range_zero, List.nil_append, List.cons_append, List.isEmpty_nil, decide_true, Nat.reduceLT, Bool.and_self, Bool.and_true, and_self, and_true, List.getElem?_cons_zero, List.getElem?_cons_succ, List.nodup_cons, List.nodup_nil, List.mem_cons, List.not_mem_nil, not_false_eq_true, or_false, List.append_nil, mkO, setO_mk, List.mem_singleton]
def a_OneWayNeed (f_AreCounts : FuncId) (f_neederOf : FuncId) (f_oneWay : FuncId) (f_nOf : FuncId) : AFn := ⟨1, 
  .seq (.reg [⟨some 2, none, .d (.mv (.c (.int .i64 0)))⟩,
    ⟨some 3, none, .d (.mv (.c (.bool false)))⟩])
  (.seq (.seq (.reg [⟨some 4, none, .d (.mv (.t 0))⟩,
    ⟨some 5, none, .d (.call (.f f_AreCounts) [(.t 4)])⟩,
    ⟨some 6, none, .d (.not (.t 5))⟩])
  (.cond (.t 6) (.seq (.reg [⟨some 2, none, .d (.mv (.c (.int .i64 0)))⟩,
     ⟨some 3, none, .d (.mv (.c (.bool false)))⟩])
   (.ret)) (.skip)))
  (.seq (.reg [⟨some 7, none, .d (.call (.f f_neederOf) [(.f f_oneWay)])⟩,
    ⟨some 8, none, .d (.mv (.t 0))⟩,
    ⟨some 9, none, .d (.call (.f f_nOf) [(.t 7), (.t 8)])⟩,
    ⟨some 2, none, .d (.mv (.t 9))⟩,
    ⟨some 3, none, .d (.mv (.c (.bool true)))⟩])
  (.ret))), [.tmp 2, .tmp 3]⟩
def n_OneWayNeed : Nat → Option Ann := fun _ => none
abbrev k_OneWayNeed : List Nat := [0, 2, 3, 6]
abbrev o_OneWayNeed : List Nat := []
def a_s_OneWayNeed (f_l4Counts : FuncId) (f_l10Needs : FuncId) (f_l4Key : FuncId) : AFn := ⟨1, 
  .seq (.reg [⟨some 2, none, .d (.mv (.c (.int .i64 0)))⟩,
    ⟨some 3, none, .d (.mv (.c (.bool false)))⟩])
  (.seq (.seq (.reg [⟨some 4, none, .d (.mv (.t 0))⟩,
    ⟨some 5, none, .d (.call (.f f_l4Counts) [(.t 4)])⟩,
    ⟨some 6, none, .d (.not (.t 5))⟩])
  (.cond (.t 6) (.seq (.reg [⟨some 2, none, .d (.mv (.c (.int .i64 0)))⟩,
     ⟨some 3, none, .d (.mv (.c (.bool false)))⟩])
   (.ret)) (.skip)))
  (.seq (.reg [⟨some 7, none, .d (.mv (.t 0))⟩,
    ⟨some 8, none, .d (.len (.t 7))⟩,
    ⟨some 9, none, .d (.call (.f f_l10Needs) [(.t 8)])⟩,
    ⟨some 10, none, .d (.mv (.t 0))⟩,
    ⟨some 11, none, .d (.call (.f f_l4Key) [(.t 10)])⟩,
    ⟨some 12, none, .d (.ia 1 (.t 9) (.t 11))⟩,
    ⟨some 13, none, .d (.load false 1 (.t 12))⟩,
    ⟨some 2, none, .d (.mv (.t 13))⟩,
    ⟨some 3, none, .d (.mv (.c (.bool true)))⟩])
  (.ret))), [.tmp 2, .tmp 3]⟩
def n_s_OneWayNeed : Nat → Option Ann := fun _ => none
abbrev k_s_OneWayNeed : List Nat := [0, 2, 3, 6]
abbrev o_s_OneWayNeed : List Nat := []
def c_OneWayNeed : Con := pure' fun
  | [.p (.sl 1 c_)] => if isI c_ = true ∧ ((ofI c_).length ≤ 1100000) then some (.tp [.p (.int .i64 (if okC (ofI c_) = true then ndI false (ofI c_) else 0)), .p (.bool (okC (ofI c_)))], []) else none
  | _ => none
theorem s_OneWayNeed {P : Program} (hm : P.follows .mixedOrders = true) {Γ : Gam} (hΓ : GS P Γ) {n : FuncId} {f_AreCounts : FuncId} {f_neederOf : FuncId} {f_oneWay : FuncId} {f_nOf : FuncId} (is : Is P n (a_OneWayNeed f_AreCounts f_neederOf f_oneWay f_nOf)) (h_AreCounts : Γ f_AreCounts = c_AreCounts) (h_nOf : Γ f_nOf = c_nOf) {Γ1 : Gam} (h_neederOf : Γ f_neederOf = c_neederOf Γ1) (h_oneWay : Γ1 f_oneWay = c_oneWay) : Says P n c_OneWayNeed := by
  refine Says.pure fun args r fs h => ?_
  split at h
  case h_2 => cases h
  rename_i c_
  split at h
  case isFalse => cases h
  rename_i hc
  obtain ⟨hc_, hc⟩ := hc
  obtain ⟨c, rfl⟩ := isI_out hc_
  simp only [ofI_ints, ofBo_bools, ofAs_asks, Option.some.injEq, Prod.mk.injEq] at h hc
  obtain ⟨rfl, rfl⟩ := h
  cases h1 : okC c with
  | false =>
    refine is.go hm hΓ k_OneWayNeed o_OneWayNeed (by simp [a_OneWayNeed]) ?_
    simp only [a_OneWayNeed, h_AreCounts, c_AreCounts, h_nOf, c_nOf, hc, h1, Bool.false_eq_true, List.zipIdx_cons, List.zipIdx_nil, ↓SP, SQ, Gam.add, stepM, callC, argC, lendO, nmBy, nmC, likeL, likeB, plainOb, offs, X, F, trP, trO, stepD, stepW, newA, SV.tr, SV.trL, fz, allP, Ob.tr, loadA, cellsA, SV.cells, binA, binI, eqOut, isSl, isPt, natOf, callee, snap, SV.refsL, SV.refs, thaw, fzAll, loA, hiA, elemOf, partsA, buildA, putCells, ↓reduceIte, reduceCtorEq, okCell, Nat.reduceAdd, Nat.reduceEqDiff, Nat.reduceSub, Nat.reduceMul, Nat.reduceLeDiff, Nat.reduceLT, Nat.reduceBEq, PV.scal, PV.scalL, SV.scal, SV.scalL, Ob.scal, PV.isCell, pure', resO]
    exact finA_val (by simp [retA, rvA, List.mapM_cons, List.mapM_nil, Option.pure_def, Option.bind_eq_bind, Option.bind_some, Option.map_some, mkE_cons, mk_nil, mkO_cons, mkO_nil, loadA, ↓reduceIte, List.take_succ_cons, List.take_zero, List.drop_zero, List.drop_succ_cons, List.length_cons, List.length_nil, Nat.reduceAdd, Nat.reduceEqDiff, Nat.reduceLeDiff, Nat.zero_add, Nat.le_refl, reduceCtorEq, SV.tr, SV.trL, nmF, rn_nil, rn_cons1, rn_cons2, List.map_cons, List.map_nil, List.all_cons, List.all_nil, plainOb, SV.refsL, SV.refs, Ob.refs, X, F, List.range_succ, List.range_zero, List.nil_append, List.cons_append, List.isEmpty_nil, decide_true, Nat.reduceLT, Bool.and_self, Bool.and_true, and_self, and_true, List.getElem?_cons_zero, List.getElem?_cons_succ, List.nodup_cons, List.nodup_nil, List.mem_cons, List.not_mem_nil, not_false_eq_true, or_false, List.append_nil, mkO, setO_mk, List.mem_singleton]) (by simp [SV.tr, SV.trL])
  | true =>
    have hne := neederOf_one h_oneWay
    obtain ⟨⟨l1, l3⟩, h8, _⟩ := okC_out h1
    have hE := okE_nES false
    have hof := ofE_nES false h1
    refine is.go hm hΓ k_OneWayNeed o_OneWayNeed (by simp [a_OneWayNeed]) ?_
    simp only [a_OneWayNeed, h_AreCounts, c_AreCounts, h_nOf, c_nOf, hc, h1, h_neederOf, hne, l1, l3, hE, hof, isI_ints, ofI_ints, ints_len, List.zipIdx_cons, List.zipIdx_nil, ↓SP, SQ, Gam.add, stepM, callC, argC, lendO, nmBy, nmC, likeL, likeB, plainOb, offs, X, F, trP, trO, stepD, stepW, newA, SV.tr, SV.trL, fz, allP, Ob.tr, loadA, cellsA, SV.cells, binA, binI, eqOut, isSl, isPt, natOf, callee, snap, SV.refsL, SV.refs, thaw, fzAll, loA, hiA, elemOf, partsA, buildA, putCells, ↓reduceIte, reduceCtorEq, okCell, Nat.reduceAdd, Nat.reduceEqDiff, Nat.reduceSub, Nat.reduceMul, Nat.reduceLeDiff, Nat.reduceLT, Nat.reduceBEq, PV.scal, PV.scalL, SV.scal, SV.scalL, Ob.scal, PV.isCell, pure', resO]
    exact finA_val (by simp [retA, rvA, List.mapM_cons, List.mapM_nil, Option.pure_def, Option.bind_eq_bind, Option.bind_some, Option.map_some, mkE_cons, mk_nil, mkO_cons, mkO_nil, loadA, ↓reduceIte, List.take_succ_cons, List.take_zero, List.drop_zero, List.drop_succ_cons, List.length_cons, List.length_nil, Nat.reduceAdd, Nat.reduceEqDiff, Nat.reduceLeDiff, Nat.zero_add, Nat.le_refl, reduceCtorEq, SV.tr, SV.trL, nmF, rn_nil, rn_cons1, rn_cons2, List.map_cons, List.map_nil, List.all_cons, List.all_nil, plainOb, SV.refsL, SV.refs, Ob.refs, X, F, List.range_succ, List.range_zero, List.nil_append, List.cons_append, List.isEmpty_nil, decide_true, Nat.reduceLT, Bool.and_self, Bool.and_true, and_self, and_true, List.getElem?_cons_zero, List.getElem?_cons_succ, List.nodup_cons, List.nodup_nil, List.mem_cons, List.not_mem_nil, not_false_eq_true, or_false, List.append_nil, mkO, setO_mk, List.mem_singleton]) (by simp [SV.tr, SV.trL])
theorem s_s_OneWayNeed {P : Program} (hm : P.follows .mixedOrders = true) {Γ : Gam} (hΓ : GS P Γ) {n : FuncId} {f_l4Counts : FuncId} {f_l10Needs : FuncId} {f_l4Key : FuncId} (is : Is P n (a_s_OneWayNeed f_l4Counts f_l10Needs f_l4Key)) (h_l4Counts : Γ f_l4Counts = c_AreCounts) (h_l10Needs : Γ f_l10Needs = c_l10Needs) (h_l4Key : Γ f_l4Key = c_l4Key)  : Says P n c_OneWayNeed := by
  refine Says.pure fun args r fs h => ?_
  split at h
  case h_2 => cases h
  rename_i c_
  split at h
  case isFalse => cases h
  rename_i hc
  obtain ⟨hc_, hc⟩ := hc
  obtain ⟨c, rfl⟩ := isI_out hc_
  simp only [ofI_ints, ofBo_bools, ofAs_asks, Option.some.injEq, Prod.mk.injEq] at h hc
  obtain ⟨rfl, rfl⟩ := h
  cases h1 : okC c with
  | false =>
    refine is.go hm hΓ k_s_OneWayNeed o_s_OneWayNeed (by simp [a_s_OneWayNeed]) ?_
    simp only [a_s_OneWayNeed, h_l4Counts, c_AreCounts, h_l10Needs, c_l10Needs, h_l4Key, c_l4Key, hc, h1, Bool.false_eq_true, List.zipIdx_cons, List.zipIdx_nil, ↓SP, SQ, Gam.add, stepM, callC, argC, lendO, nmBy, nmC, likeL, likeB, plainOb, offs, X, F, trP, trO, stepD, stepW, newA, SV.tr, SV.trL, fz, allP, Ob.tr, loadA, cellsA, SV.cells, binA, binI, eqOut, isSl, isPt, natOf, callee, snap, SV.refsL, SV.refs, thaw, fzAll, loA, hiA, elemOf, partsA, buildA, putCells, ↓reduceIte, reduceCtorEq, okCell, Nat.reduceAdd, Nat.reduceEqDiff, Nat.reduceSub, Nat.reduceMul, Nat.reduceLeDiff, Nat.reduceLT, Nat.reduceBEq, PV.scal, PV.scalL, SV.scal, SV.scalL, Ob.scal, PV.isCell, pure', resO]
    exact finA_val (by simp [retA, rvA, List.mapM_cons, List.mapM_nil, Option.pure_def, Option.bind_eq_bind, Option.bind_some, Option.map_some, mkE_cons, mk_nil, mkO_cons, mkO_nil, loadA, ↓reduceIte, List.take_succ_cons, List.take_zero, List.drop_zero, List.drop_succ_cons, List.length_cons, List.length_nil, Nat.reduceAdd, Nat.reduceEqDiff, Nat.reduceLeDiff, Nat.zero_add, Nat.le_refl, reduceCtorEq, SV.tr, SV.trL, nmF, rn_nil, rn_cons1, rn_cons2, List.map_cons, List.map_nil, List.all_cons, List.all_nil, plainOb, SV.refsL, SV.refs, Ob.refs, X, F, List.range_succ, List.range_zero, List.nil_append, List.cons_append, List.isEmpty_nil, decide_true, Nat.reduceLT, Bool.and_self, Bool.and_true, and_self, and_true, List.getElem?_cons_zero, List.getElem?_cons_succ, List.nodup_cons, List.nodup_nil, List.mem_cons, List.not_mem_nil, not_false_eq_true, or_false, List.append_nil, mkO, setO_mk, List.mem_singleton]) (by simp [SV.tr, SV.trL])
  | true =>
    obtain ⟨⟨l1, l3⟩, h8, _⟩ := okC_out h1
    have l1' : (1 : Int) ≤ c.length := by omega
    have l3' : (c.length : Int) ≤ 3 := by omega
    obtain ⟨k0, k1⟩ := keyN_bd (p := c.length) rfl h8
    have hkk : (keyL c).toNat = keyN c := rfl
    have hg := ints_get (l := tabK (ntT tabO) c.length 6) (i := keyN c) (by rw [tabK_len]; exact k1)
    have htn := (tab_nd h1).2
    rw [htn] at hg
    refine is.go hm hΓ k_s_OneWayNeed o_s_OneWayNeed (by simp [a_s_OneWayNeed]) ?_
    simp only [a_s_OneWayNeed, h_l4Counts, c_AreCounts, h_l10Needs, c_l10Needs, h_l4Key, c_l4Key, hc, h1, l1', l3', l3, h8, k0, hkk, hg, Int.toNat_natCast, isI_ints, ofI_ints, ints_len, List.zipIdx_cons, List.zipIdx_nil, ↓SP, SQ, Gam.add, stepM, callC, argC, lendO, nmBy, nmC, likeL, likeB, plainOb, offs, X, F, trP, trO, stepD, stepW, newA, SV.tr, SV.trL, fz, allP, Ob.tr, loadA, cellsA, SV.cells, binA, binI, eqOut, isSl, isPt, natOf, callee, snap, SV.refsL, SV.refs, thaw, fzAll, loA, hiA, elemOf, partsA, buildA, putCells, ↓reduceIte, reduceCtorEq, okCell, Nat.reduceAdd, Nat.reduceEqDiff, Nat.reduceSub, Nat.reduceMul, Nat.reduceLeDiff, Nat.reduceLT, Nat.reduceBEq, PV.scal, PV.scalL, SV.scal, SV.scalL, Ob.scal, PV.isCell, pure', resO]
    exact finA_val (by simp [retA, rvA, List.mapM_cons, List.mapM_nil, Option.pure_def, Option.bind_eq_bind, Option.bind_some, Option.map_some, mkE_cons, mk_nil, mkO_cons, mkO_nil, loadA, ↓reduceIte, List.take_succ_cons, List.take_zero, List.drop_zero, List.drop_succ_cons, List.length_cons, List.length_nil, Nat.reduceAdd, Nat.reduceEqDiff, Nat.reduceLeDiff, Nat.zero_add, Nat.le_refl, reduceCtorEq, SV.tr, SV.trL, nmF, rn_nil, rn_cons1, rn_cons2, List.map_cons, List.map_nil, List.all_cons, List.all_nil, plainOb, SV.refsL, SV.refs, Ob.refs, X, F, List.range_succ, List.range_zero, List.nil_append, List.cons_append, List.isEmpty_nil, decide_true, Nat.reduceLT, Bool.and_self, Bool.and_true, and_self, and_true, List.getElem?_cons_zero, List.getElem?_cons_succ, List.nodup_cons, List.nodup_nil, List.mem_cons, List.not_mem_nil, not_false_eq_true, or_false, List.append_nil, mkO, setO_mk, List.mem_singleton]) (by simp [SV.tr, SV.trL])
def a_OneWayMost (f_in : FuncId) (f_isMost : FuncId) (f_neederOf : FuncId) (f_oneWay : FuncId) (f_nMost : FuncId) : AFn := ⟨2, 
  .seq (.reg [⟨some 4, none, .d (.mv (.c (.int .i64 0)))⟩,
    ⟨some 5, none, .d (.mv (.c (.bool false)))⟩])
  (.seq (.seq (.reg [⟨some 6, none, .d (.mv (.t 0))⟩,
    ⟨some 7, none, .d (.call (.f f_in) [(.t 6), (.c (.int .i64 0)), (.c (.int .i64 20))])⟩,
    ⟨some 8, none, .d (.not (.t 7))⟩,
    ⟨some 9, none, .d (.mv (.t 8))⟩,
    ⟨some 10, some (9, false), .d (.mv (.t 1))⟩,
    ⟨some 11, some (9, false), .d (.call (.f f_isMost) [(.t 10)])⟩,
    ⟨some 12, some (9, false), .d (.not (.t 11))⟩,
    ⟨some 13, none, .d (.pick (.t 9) (.c (.bool true)) (.t 12))⟩])
  (.cond (.t 13) (.seq (.reg [⟨some 4, none, .d (.mv (.c (.int .i64 0)))⟩,
     ⟨some 5, none, .d (.mv (.c (.bool false)))⟩])
   (.ret)) (.skip)))
  (.seq (.reg [⟨some 14, none, .d (.call (.f f_neederOf) [(.f f_oneWay)])⟩,
    ⟨some 15, none, .d (.mv (.t 0))⟩,
    ⟨some 16, none, .d (.mv (.t 1))⟩,
    ⟨some 17, none, .d (.call (.f f_nMost) [(.t 14), (.t 15), (.t 16)])⟩,
    ⟨some 4, none, .d (.mv (.t 17))⟩,
    ⟨some 5, none, .d (.mv (.c (.bool true)))⟩])
  (.ret))), [.tmp 4, .tmp 5]⟩
def n_OneWayMost : Nat → Option Ann := fun _ => none
abbrev k_OneWayMost : List Nat := [0, 1, 4, 5, 13]
abbrev o_OneWayMost : List Nat := []
def a_s_OneWayMost (f_l1In : FuncId) (f_l10Needs : FuncId) (f_countsOf : FuncId) (f_l4Key : FuncId) : AFn := ⟨2, 
  .seq (.reg [⟨some 4, none, .d (.mv (.c (.int .i64 0)))⟩,
    ⟨some 5, none, .d (.mv (.c (.bool false)))⟩])
  (.seq (.seq (.reg [⟨some 8, none, .d (.mv (.t 0))⟩,
    ⟨some 9, none, .d (.call (.f f_l1In) [(.t 8), (.c (.int .i64 0)), (.c (.int .i64 20))])⟩,
    ⟨some 10, none, .d (.not (.t 9))⟩,
    ⟨some 11, none, .d (.mv (.t 10))⟩,
    ⟨some 12, some (11, false), .d (.mv (.t 1))⟩,
    ⟨some 13, some (11, false), .d (.call (.f f_l1In) [(.t 12), (.c (.int .i64 0)), (.c (.int .i64 2))])⟩,
    ⟨some 14, some (11, false), .d (.not (.t 13))⟩,
    ⟨some 15, none, .d (.pick (.t 11) (.c (.bool true)) (.t 14))⟩])
  (.cond (.t 15) (.seq (.reg [⟨some 4, none, .d (.mv (.c (.int .i64 0)))⟩,
     ⟨some 5, none, .d (.mv (.c (.bool false)))⟩])
   (.ret)) (.skip)))
  (.seq (.reg [⟨some 16, none, .d (.mv (.t 1))⟩,
    ⟨some 17, none, .d (.bin .arith .add (.t 16) (.c (.int .i64 1)))⟩,
    ⟨some 18, none, .d (.call (.f f_l10Needs) [(.t 17)])⟩,
    ⟨some 6, none, .d (.mv (.t 18))⟩,
    ⟨some 7, none, .d (.mv (.c (.int .i64 1)))⟩])
  (.seq (.block 0 (.loop (.seq (.seq (.reg [⟨some 19, none, .d (.mv (.t 7))⟩,
      ⟨some 20, none, .d (.bin .arith .lss (.t 19) (.c (.int .i64 8)))⟩,
      ⟨some 21, none, .d (.mv (.t 20))⟩,
      ⟨some 22, some (21, true), .d (.mv (.t 6))⟩,
      ⟨some 23, some (21, true), .d (.mv (.t 7))⟩,
      ⟨some 24, some (21, true), .d (.bin .arith .add (.t 23) (.c (.int .i64 1)))⟩,
      ⟨some 25, some (21, true), .d (.mv (.t 1))⟩,
      ⟨some 26, some (21, true), .d (.call (.f f_countsOf) [(.t 24), (.t 25)])⟩,
      ⟨some 27, some (21, true), .d (.call (.f f_l4Key) [(.t 26)])⟩,
      ⟨some 28, some (21, true), .d (.ia 1 (.t 22) (.t 27))⟩,
      ⟨some 29, some (21, true), .d (.load false 1 (.t 28))⟩,
      ⟨some 30, some (21, true), .d (.mv (.t 0))⟩,
      ⟨some 31, some (21, true), .d (.bin .arith .leq (.t 29) (.t 30))⟩,
      ⟨some 32, none, .d (.pick (.t 21) (.t 31) (.c (.bool false)))⟩])
    (.cond (.t 32) (.skip) (.exit 0)))
    (.block 1 (.reg [⟨some 33, none, .d (.mv (.t 7))⟩,
       ⟨some 34, none, .d (.bin .arith .add (.t 33) (.c (.int .i64 1)))⟩,
       ⟨some 7, none, .d (.mv (.t 34))⟩])))))
  (.seq (.reg [⟨some 35, none, .d (.mv (.t 7))⟩,
    ⟨some 4, none, .d (.mv (.t 35))⟩,
    ⟨some 5, none, .d (.mv (.c (.bool true)))⟩])
  (.ret))))), [.tmp 4, .tmp 5]⟩
def n_s_OneWayMost : Nat → Option Ann := fun _ => none
abbrev k_s_OneWayMost : List Nat := [0, 1, 4, 5, 6, 7, 15, 32]
abbrev o_s_OneWayMost : List Nat := []
def c_OneWayMost : Con := pure' fun
  | [.p (.int .i64 q), .p (.int .i64 m)] => if (True) then some (.tp [.p (.int .i64 (if (decide (0 ≤ q) && decide (q ≤ 20) && (decide (0 ≤ m) && decide (m ≤ 2))) = true then moF (gF false m) q 9 else 0)), .p (.bool (decide (0 ≤ q) && decide (q ≤ 20) && (decide (0 ≤ m) && decide (m ≤ 2))))], []) else none
  | _ => none
theorem s_OneWayMost {P : Program} (hm : P.follows .mixedOrders = true) {Γ : Gam} (hΓ : GS P Γ) {n : FuncId} {f_in : FuncId} {f_isMost : FuncId} {f_neederOf : FuncId} {f_oneWay : FuncId} {f_nMost : FuncId} (is : Is P n (a_OneWayMost f_in f_isMost f_neederOf f_oneWay f_nMost)) (h_in : Γ f_in = c_in) (h_isMost : Γ f_isMost = c_isMost) (h_nMost : Γ f_nMost = c_nMost) {Γ1 : Gam} (h_neederOf : Γ f_neederOf = c_neederOf Γ1) (h_oneWay : Γ1 f_oneWay = c_oneWay) : Says P n c_OneWayMost := by
  refine Says.pure fun args r fs h => ?_
  split at h
  case h_2 => cases h
  rename_i q m
  split at h
  case isFalse => cases h
  rename_i hc
  simp only [ofI_ints, ofBo_bools, ofAs_asks, Option.some.injEq, Prod.mk.injEq] at h hc
  obtain ⟨rfl, rfl⟩ := h
  cases h1 : (decide (0 ≤ q) && decide (q ≤ 20)) with
  | false =>
    refine is.go hm hΓ k_OneWayMost o_OneWayMost (by simp [a_OneWayMost]) ?_
    simp only [a_OneWayMost, h_in, c_in, h_isMost, c_isMost, h_nMost, c_nMost, h1, Bool.false_and, Bool.false_eq_true, List.zipIdx_cons, List.zipIdx_nil, ↓SP, SQ, Gam.add, stepM, callC, argC, lendO, nmBy, nmC, likeL, likeB, plainOb, offs, X, F, trP, trO, stepD, stepW, newA, SV.tr, SV.trL, fz, allP, Ob.tr, loadA, cellsA, SV.cells, binA, binI, eqOut, isSl, isPt, natOf, callee, snap, SV.refsL, SV.refs, thaw, fzAll, loA, hiA, elemOf, partsA, buildA, putCells, ↓reduceIte, reduceCtorEq, okCell, Nat.reduceAdd, Nat.reduceEqDiff, Nat.reduceSub, Nat.reduceMul, Nat.reduceLeDiff, Nat.reduceLT, Nat.reduceBEq, PV.scal, PV.scalL, SV.scal, SV.scalL, Ob.scal, PV.isCell, pure', resO]
    exact finA_val (by simp [retA, rvA, List.mapM_cons, List.mapM_nil, Option.pure_def, Option.bind_eq_bind, Option.bind_some, Option.map_some, mkE_cons, mk_nil, mkO_cons, mkO_nil, loadA, ↓reduceIte, List.take_succ_cons, List.take_zero, List.drop_zero, List.drop_succ_cons, List.length_cons, List.length_nil, Nat.reduceAdd, Nat.reduceEqDiff, Nat.reduceLeDiff, Nat.zero_add, Nat.le_refl, reduceCtorEq, SV.tr, SV.trL, nmF, rn_nil, rn_cons1, rn_cons2, List.map_cons, List.map_nil, List.all_cons, List.all_nil, plainOb, SV.refsL, SV.refs, Ob.refs, X, F, List.range_succ, List.range_zero, List.nil_append, List.cons_append, List.isEmpty_nil, decide_true, Nat.reduceLT, Bool.and_self, Bool.and_true, and_self, and_true, List.getElem?_cons_zero, List.getElem?_cons_succ, List.nodup_cons, List.nodup_nil, List.mem_cons, List.not_mem_nil, not_false_eq_true, or_false, List.append_nil, mkO, setO_mk, List.mem_singleton]) (by simp [SV.tr, SV.trL])
  | true =>
    cases h2 : (decide (0 ≤ m) && decide (m ≤ 2)) with
    | false =>
      refine is.go hm hΓ k_OneWayMost o_OneWayMost (by simp [a_OneWayMost]) ?_
      simp only [a_OneWayMost, h_in, c_in, h_isMost, c_isMost, h_nMost, c_nMost, h1, h2, Bool.and_false, Bool.false_eq_true, List.zipIdx_cons, List.zipIdx_nil, ↓SP, SQ, Gam.add, stepM, callC, argC, lendO, nmBy, nmC, likeL, likeB, plainOb, offs, X, F, trP, trO, stepD, stepW, newA, SV.tr, SV.trL, fz, allP, Ob.tr, loadA, cellsA, SV.cells, binA, binI, eqOut, isSl, isPt, natOf, callee, snap, SV.refsL, SV.refs, thaw, fzAll, loA, hiA, elemOf, partsA, buildA, putCells, ↓reduceIte, reduceCtorEq, okCell, Nat.reduceAdd, Nat.reduceEqDiff, Nat.reduceSub, Nat.reduceMul, Nat.reduceLeDiff, Nat.reduceLT, Nat.reduceBEq, PV.scal, PV.scalL, SV.scal, SV.scalL, Ob.scal, PV.isCell, pure', resO]
      exact finA_val (by simp [retA, rvA, List.mapM_cons, List.mapM_nil, Option.pure_def, Option.bind_eq_bind, Option.bind_some, Option.map_some, mkE_cons, mk_nil, mkO_cons, mkO_nil, loadA, ↓reduceIte, List.take_succ_cons, List.take_zero, List.drop_zero, List.drop_succ_cons, List.length_cons, List.length_nil, Nat.reduceAdd, Nat.reduceEqDiff, Nat.reduceLeDiff, Nat.zero_add, Nat.le_refl, reduceCtorEq, SV.tr, SV.trL, nmF, rn_nil, rn_cons1, rn_cons2, List.map_cons, List.map_nil, List.all_cons, List.all_nil, plainOb, SV.refsL, SV.refs, Ob.refs, X, F, List.range_succ, List.range_zero, List.nil_append, List.cons_append, List.isEmpty_nil, decide_true, Nat.reduceLT, Bool.and_self, Bool.and_true, and_self, and_true, List.getElem?_cons_zero, List.getElem?_cons_succ, List.nodup_cons, List.nodup_nil, List.mem_cons, List.not_mem_nil, not_false_eq_true, or_false, List.append_nil, mkO, setO_mk, List.mem_singleton]) (by simp [SV.tr, SV.trL])
    | true =>
      have hq2 : 0 ≤ m ∧ m ≤ 2 := by simpa using h2
      have hne := neederOf_one h_oneWay
      have hE := okE_nES false
      have hmo : moF (fun k => ofE (nES false) (frL (k : Nat) m)) q 9 = moF (gF false m) q 9 := moF_congr fun k hk => ofE_nES false (fr_okC (by omega) hq2)
      refine is.go hm hΓ k_OneWayMost o_OneWayMost (by simp [a_OneWayMost]) ?_
      simp only [a_OneWayMost, h_in, c_in, h_isMost, c_isMost, h_nMost, c_nMost, h1, h2, hq2, h_neederOf, hne, hE, hmo, Bool.and_self, List.zipIdx_cons, List.zipIdx_nil, ↓SP, SQ, Gam.add, stepM, callC, argC, lendO, nmBy, nmC, likeL, likeB, plainOb, offs, X, F, trP, trO, stepD, stepW, newA, SV.tr, SV.trL, fz, allP, Ob.tr, loadA, cellsA, SV.cells, binA, binI, eqOut, isSl, isPt, natOf, callee, snap, SV.refsL, SV.refs, thaw, fzAll, loA, hiA, elemOf, partsA, buildA, putCells, ↓reduceIte, reduceCtorEq, okCell, Nat.reduceAdd, Nat.reduceEqDiff, Nat.reduceSub, Nat.reduceMul, Nat.reduceLeDiff, Nat.reduceLT, Nat.reduceBEq, PV.scal, PV.scalL, SV.scal, SV.scalL, Ob.scal, PV.isCell, pure', resO]
      exact finA_val (by simp [retA, rvA, List.mapM_cons, List.mapM_nil, Option.pure_def, Option.bind_eq_bind, Option.bind_some, Option.map_some, mkE_cons, mk_nil, mkO_cons, mkO_nil, loadA, ↓reduceIte, List.take_succ_cons, List.take_zero, List.drop_zero, List.drop_succ_cons, List.length_cons, List.length_nil, Nat.reduceAdd, Nat.reduceEqDiff, Nat.reduceLeDiff, Nat.zero_add, Nat.le_refl, reduceCtorEq, SV.tr, SV.trL, nmF, rn_nil, rn_cons1, rn_cons2, List.map_cons, List.map_nil, List.all_cons, List.all_nil, plainOb, SV.refsL, SV.refs, Ob.refs, X, F, List.range_succ, List.range_zero, List.nil_append, List.cons_append, List.isEmpty_nil, decide_true, Nat.reduceLT, Bool.and_self, Bool.and_true, and_self, and_true, List.getElem?_cons_zero, List.getElem?_cons_succ, List.nodup_cons, List.nodup_nil, List.mem_cons, List.not_mem_nil, not_false_eq_true, or_false, List.append_nil, mkO, setO_mk, List.mem_singleton]) (by simp [SV.tr, SV.trL])
theorem s_s_OneWayMost {P : Program} (hm : P.follows .mixedOrders = true) {Γ : Gam} (hΓ : GS P Γ) {n : FuncId} {f_l1In : FuncId} {f_l10Needs : FuncId} {f_countsOf : FuncId} {f_l4Key : FuncId} (is : Is P n (a_s_OneWayMost f_l1In f_l10Needs f_countsOf f_l4Key)) (h_l1In : Γ f_l1In = c_in) (h_l10Needs : Γ f_l10Needs = c_l10Needs) (h_countsOf : Γ f_countsOf = c_countsOf) (h_l4Key : Γ f_l4Key = c_l4Key)  : Says P n c_OneWayMost := by
  refine Says.pure fun args r fs h => ?_
  split at h
  case h_2 => cases h
  rename_i q m
  split at h
  case isFalse => cases h
  rename_i hc
  simp only [ofI_ints, ofBo_bools, ofAs_asks, Option.some.injEq, Prod.mk.injEq] at h hc
  obtain ⟨rfl, rfl⟩ := h
  cases h1 : (decide (0 ≤ q) && decide (q ≤ 20)) with
  | false =>
    refine is.go hm hΓ k_s_OneWayMost o_s_OneWayMost (by simp [a_s_OneWayMost]) ?_
    simp only [a_s_OneWayMost, h_l1In, c_in, h_l10Needs, c_l10Needs, h_countsOf, c_countsOf, h_l4Key, c_l4Key, h1, Bool.false_and, Bool.false_eq_true, List.zipIdx_cons, List.zipIdx_nil, ↓SP, SQ, Gam.add, stepM, callC, argC, lendO, nmBy, nmC, likeL, likeB, plainOb, offs, X, F, trP, trO, stepD, stepW, newA, SV.tr, SV.trL, fz, allP, Ob.tr, loadA, cellsA, SV.cells, binA, binI, eqOut, isSl, isPt, natOf, callee, snap, SV.refsL, SV.refs, thaw, fzAll, loA, hiA, elemOf, partsA, buildA, putCells, ↓reduceIte, reduceCtorEq, okCell, Nat.reduceAdd, Nat.reduceEqDiff, Nat.reduceSub, Nat.reduceMul, Nat.reduceLeDiff, Nat.reduceLT, Nat.reduceBEq, PV.scal, PV.scalL, SV.scal, SV.scalL, Ob.scal, PV.isCell, pure', resO]
    exact finA_val (by simp [retA, rvA, List.mapM_cons, List.mapM_nil, Option.pure_def, Option.bind_eq_bind, Option.bind_some, Option.map_some, mkE_cons, mk_nil, mkO_cons, mkO_nil, loadA, ↓reduceIte, List.take_succ_cons, List.take_zero, List.drop_zero, List.drop_succ_cons, List.length_cons, List.length_nil, Nat.reduceAdd, Nat.reduceEqDiff, Nat.reduceLeDiff, Nat.zero_add, Nat.le_refl, reduceCtorEq, SV.tr, SV.trL, nmF, rn_nil, rn_cons1, rn_cons2, List.map_cons, List.map_nil, List.all_cons, List.all_nil, plainOb, SV.refsL, SV.refs, Ob.refs, X, F, List.range_succ, List.range_zero, List.nil_append, List.cons_append, List.isEmpty_nil, decide_true, Nat.reduceLT, Bool.and_self, Bool.and_true, and_self, and_true, List.getElem?_cons_zero, List.getElem?_cons_succ, List.nodup_cons, List.nodup_nil, List.mem_cons, List.not_mem_nil, not_false_eq_true, or_false, List.append_nil, mkO, setO_mk, List.mem_singleton]) (by simp [SV.tr, SV.trL])
  | true =>
    cases h2 : (decide (0 ≤ m) && decide (m ≤ 2)) with
    | false =>
      refine is.go hm hΓ k_s_OneWayMost o_s_OneWayMost (by simp [a_s_OneWayMost]) ?_
      simp only [a_s_OneWayMost, h_l1In, c_in, h_l10Needs, c_l10Needs, h_countsOf, c_countsOf, h_l4Key, c_l4Key, h1, h2, Bool.and_false, Bool.false_eq_true, List.zipIdx_cons, List.zipIdx_nil, ↓SP, SQ, Gam.add, stepM, callC, argC, lendO, nmBy, nmC, likeL, likeB, plainOb, offs, X, F, trP, trO, stepD, stepW, newA, SV.tr, SV.trL, fz, allP, Ob.tr, loadA, cellsA, SV.cells, binA, binI, eqOut, isSl, isPt, natOf, callee, snap, SV.refsL, SV.refs, thaw, fzAll, loA, hiA, elemOf, partsA, buildA, putCells, ↓reduceIte, reduceCtorEq, okCell, Nat.reduceAdd, Nat.reduceEqDiff, Nat.reduceSub, Nat.reduceMul, Nat.reduceLeDiff, Nat.reduceLT, Nat.reduceBEq, PV.scal, PV.scalL, SV.scal, SV.scalL, Ob.scal, PV.isCell, pure', resO]
      exact finA_val (by simp [retA, rvA, List.mapM_cons, List.mapM_nil, Option.pure_def, Option.bind_eq_bind, Option.bind_some, Option.map_some, mkE_cons, mk_nil, mkO_cons, mkO_nil, loadA, ↓reduceIte, List.take_succ_cons, List.take_zero, List.drop_zero, List.drop_succ_cons, List.length_cons, List.length_nil, Nat.reduceAdd, Nat.reduceEqDiff, Nat.reduceLeDiff, Nat.zero_add, Nat.le_refl, reduceCtorEq, SV.tr, SV.trL, nmF, rn_nil, rn_cons1, rn_cons2, List.map_cons, List.map_nil, List.all_cons, List.all_nil, plainOb, SV.refsL, SV.refs, Ob.refs, X, F, List.range_succ, List.range_zero, List.nil_append, List.cons_append, List.isEmpty_nil, decide_true, Nat.reduceLT, Bool.and_self, Bool.and_true, and_self, and_true, List.getElem?_cons_zero, List.getElem?_cons_succ, List.nodup_cons, List.nodup_nil, List.mem_cons, List.not_mem_nil, not_false_eq_true, or_false, List.append_nil, mkO, setO_mk, List.mem_singleton]) (by simp [SV.tr, SV.trL])
    | true =>
      have hq2 : 0 ≤ m ∧ m ≤ 2 := by simpa using h2
      have hq0 : 0 ≤ q ∧ q ≤ 20 := by simpa using h1
      obtain ⟨mm, rfl⟩ : ∃ j : Nat, m = j := ⟨m.toNat, by omega⟩
      have hwm := wrap_one (i := mm) (by omega)
      have m1 : (1 : Int) ≤ ((mm + 1 : Nat) : Int) := by omega
      have m3 : ((mm + 1 : Nat) : Int) ≤ 3 := by omega
      refine is.go hm hΓ k_s_OneWayMost o_s_OneWayMost (by simp [a_s_OneWayMost]) ?_
      simp only [a_s_OneWayMost, h_l1In, c_in, h_l10Needs, c_l10Needs, h_countsOf, c_countsOf, h_l4Key, c_l4Key, h1, h2, hq2.1, hq2.2, hwm, m1, m3, Int.toNat_natCast, List.zipIdx_cons, List.zipIdx_nil, ↓SP, SQ, Gam.add, stepM, callC, argC, lendO, nmBy, nmC, likeL, likeB, plainOb, offs, X, F, trP, trO, stepD, stepW, newA, SV.tr, SV.trL, fz, allP, Ob.tr, loadA, cellsA, SV.cells, binA, binI, eqOut, isSl, isPt, natOf, callee, snap, SV.refsL, SV.refs, thaw, fzAll, loA, hiA, elemOf, partsA, buildA, putCells, ↓reduceIte, reduceCtorEq, okCell, Nat.reduceAdd, Nat.reduceEqDiff, Nat.reduceSub, Nat.reduceMul, Nat.reduceLeDiff, Nat.reduceLT, Nat.reduceBEq, PV.scal, PV.scalL, SV.scal, SV.scalL, Ob.scal, PV.isCell, pure', resO]
      refine loop_at (fun s : Nat × SV × SV => mkEnv [(0, si q), (1, si mm), (4, si 0), (5, sb false), (6, .p (.sl 1 (ints (tabK (ntT tabO) (mm + 1) 6)))), (7, si ((s.1 + 1 : Nat) : Int)), (15, sb false), (32, s.2.1)]) (fun s => mkO []) (fun s => s.1 ≤ 7 ∧ gF false mm (s.1 + 1) ≤ q) (fun s => 7 - s.1) (0, .junk, .junk) (by refine ⟨by simp only; omega, ?_⟩; rw [gF_1 false hq2]; exact hq0.1) rfl rfl ?_
      rintro ⟨n, c1, c2⟩ ⟨hn, hgn⟩ R0 hR hN
      simp only at hn hgn
      by_cases h : n < 7
      · have h3 : ((n + 1 : Nat) : Int) < 8 := by omega
        have hw := wrap_one (i := n + 1) (by omega)
        have hfo := fr_okC (n := n + 1 + 1) (m := mm) (by omega) hq2
        obtain ⟨⟨f1, f3⟩, f8, _⟩ := okC_out hfo
        have hfl : (frL ((n + 1 + 1 : Nat) : Int) mm).length = mm + 1 := by simp [frL]
        obtain ⟨k0, k1⟩ := keyN_bd (p := mm + 1) hfl f8
        have hkk : (keyL (frL ((n + 1 + 1 : Nat) : Int) mm)).toNat = keyN (frL ((n + 1 + 1 : Nat) : Int) mm) := rfl
        have hg := ints_get (l := tabK (ntT tabO) (mm + 1) 6) (i := keyN (frL ((n + 1 + 1 : Nat) : Int) mm)) (by rw [tabK_len]; exact k1)
        have htn := (tab_nd hfo).2
        rw [hfl] at htn
        have htn2 : (tabK (ntT tabO) (mm + 1) 6).getD (keyN (frL ((n + 1 + 1 : Nat) : Int) mm)) 0 = gF false mm (n + 1 + 1) := htn
        rw [htn2] at hg
        by_cases hq : gF false mm (n + 1 + 1) ≤ q
        · simp only [h3, hw, hq2, f3, f8, k0, hkk, hg, hq, h_countsOf, c_countsOf, h_l4Key, c_l4Key, isI_ints, ofI_ints, ↓SP, SQ, Gam.add, stepM, callC, argC, lendO, nmBy, nmC, likeL, likeB, plainOb, offs, X, F, trP, trO, stepD, stepW, newA, SV.tr, SV.trL, fz, allP, Ob.tr, loadA, cellsA, SV.cells, binA, binI, eqOut, isSl, isPt, natOf, callee, snap, SV.refsL, SV.refs, thaw, fzAll, loA, hiA, elemOf, partsA, buildA, putCells, ↓reduceIte, reduceCtorEq, okCell, Nat.reduceAdd, Nat.reduceEqDiff, Nat.reduceSub, Nat.reduceMul, Nat.reduceLeDiff, Nat.reduceLT, Nat.reduceBEq, PV.scal, PV.scalL, SV.scal, SV.scalL, Ob.scal, PV.isCell, pure', resO]
          exact hN (n + 1, _, .junk) _ _ ⟨by simp only; omega, hq⟩ (by simp only; omega) rfl rfl
        · have hmo : moF (gF false mm) q 9 = ((n + 1 : Nat) : Int) := moF_mono hgn (by omega) (gF_mono false hq2) (.inr (by omega))
          simp only [h3, hw, hq2, f3, f8, k0, hkk, hg, hq, h_countsOf, c_countsOf, h_l4Key, c_l4Key, isI_ints, ofI_ints, ↓SP, SQ, Gam.add, stepM, callC, argC, lendO, nmBy, nmC, likeL, likeB, plainOb, offs, X, F, trP, trO, stepD, stepW, newA, SV.tr, SV.trL, fz, allP, Ob.tr, loadA, cellsA, SV.cells, binA, binI, eqOut, isSl, isPt, natOf, callee, snap, SV.refsL, SV.refs, thaw, fzAll, loA, hiA, elemOf, partsA, buildA, putCells, ↓reduceIte, reduceCtorEq, okCell, Nat.reduceAdd, Nat.reduceEqDiff, Nat.reduceSub, Nat.reduceMul, Nat.reduceLeDiff, Nat.reduceLT, Nat.reduceBEq, PV.scal, PV.scalL, SV.scal, SV.scalL, Ob.scal, PV.isCell, pure', resO]
          refine hR _ _ _ (by intro h; cases h) ?_
          simp only [↓SP, SQ, Gam.add, stepM, callC, argC, lendO, nmBy, nmC, likeL, likeB, plainOb, offs, X, F, trP, trO, stepD, stepW, newA, SV.tr, SV.trL, fz, allP, Ob.tr, loadA, cellsA, SV.cells, binA, binI, eqOut, isSl, isPt, natOf, callee, snap, SV.refsL, SV.refs, thaw, fzAll, loA, hiA, elemOf, partsA, buildA, putCells, ↓reduceIte, reduceCtorEq, okCell, Nat.reduceAdd, Nat.reduceEqDiff, Nat.reduceSub, Nat.reduceMul, Nat.reduceLeDiff, Nat.reduceLT, Nat.reduceBEq, PV.scal, PV.scalL, SV.scal, SV.scalL, Ob.scal, PV.isCell, pure', resO]
          exact finA_val (by simp [hmo, retA, rvA, List.mapM_cons, List.mapM_nil, Option.pure_def, Option.bind_eq_bind, Option.bind_some, Option.map_some, mkE_cons, mk_nil, mkO_cons, mkO_nil, loadA, ↓reduceIte, List.take_succ_cons, List.take_zero, List.drop_zero, List.drop_succ_cons, List.length_cons, List.length_nil, Nat.reduceAdd, Nat.reduceEqDiff, Nat.reduceLeDiff, Nat.zero_add, Nat.le_refl, reduceCtorEq, SV.tr, SV.trL, nmF, rn_nil, rn_cons1, rn_cons2, List.map_cons, List.map_nil, List.all_cons, List.all_nil, plainOb, SV.refsL, SV.refs, Ob.refs, X, F, List.range_succ, List.range_zero, List.nil_append, List.cons_append, List.isEmpty_nil, decide_true, Nat.reduceLT, Bool.and_self, Bool.and_true, and_self, and_true, List.getElem?_cons_zero, List.getElem?_cons_succ, List.nodup_cons, List.nodup_nil, List.mem_cons, List.not_mem_nil, not_false_eq_true, or_false, List.append_nil, mkO, setO_mk, List.mem_singleton]) (by simp [SV.tr, SV.trL])
      · have he : n = 7 := by omega
        subst he
        have h3 : ¬ ((7 + 1 : Nat) : Int) < 8 := by omega
        have hmo : moF (gF false mm) q 9 = ((7 + 1 : Nat) : Int) := moF_mono hgn (by omega) (gF_mono false hq2) (.inl rfl)
        simp only [h3, ↓SP, SQ, Gam.add, stepM, callC, argC, lendO, nmBy, nmC, likeL, likeB, plainOb, offs, X, F, trP, trO, stepD, stepW, newA, SV.tr, SV.trL, fz, allP, Ob.tr, loadA, cellsA, SV.cells, binA, binI, eqOut, isSl, isPt, natOf, callee, snap, SV.refsL, SV.refs, thaw, fzAll, loA, hiA, elemOf, partsA, buildA, putCells, ↓reduceIte, reduceCtorEq, okCell, Nat.reduceAdd, Nat.reduceEqDiff, Nat.reduceSub, Nat.reduceMul, Nat.reduceLeDiff, Nat.reduceLT, Nat.reduceBEq, PV.scal, PV.scalL, SV.scal, SV.scalL, Ob.scal, PV.isCell, pure', resO]
        refine hR _ _ _ (by intro h; cases h) ?_
        simp only [↓SP, SQ, Gam.add, stepM, callC, argC, lendO, nmBy, nmC, likeL, likeB, plainOb, offs, X, F, trP, trO, stepD, stepW, newA, SV.tr, SV.trL, fz, allP, Ob.tr, loadA, cellsA, SV.cells, binA, binI, eqOut, isSl, isPt, natOf, callee, snap, SV.refsL, SV.refs, thaw, fzAll, loA, hiA, elemOf, partsA, buildA, putCells, ↓reduceIte, reduceCtorEq, okCell, Nat.reduceAdd, Nat.reduceEqDiff, Nat.reduceSub, Nat.reduceMul, Nat.reduceLeDiff, Nat.reduceLT, Nat.reduceBEq, PV.scal, PV.scalL, SV.scal, SV.scalL, Ob.scal, PV.isCell, pure', resO]
        exact finA_val (by simp [hmo, retA, rvA, List.mapM_cons, List.mapM_nil, Option.pure_def, Option.bind_eq_bind, Option.bind_some, Option.map_some, mkE_cons, mk_nil, mkO_cons, mkO_nil, loadA, ↓reduceIte, List.take_succ_cons, List.take_zero, List.drop_zero, List.drop_succ_cons, List.length_cons, List.length_nil, Nat.reduceAdd, Nat.reduceEqDiff, Nat.reduceLeDiff, Nat.zero_add, Nat.le_refl, reduceCtorEq, SV.tr, SV.trL, nmF, rn_nil, rn_cons1, rn_cons2, List.map_cons, List.map_nil, List.all_cons, List.all_nil, plainOb, SV.refsL, SV.refs, Ob.refs, X, F, List.range_succ, List.range_zero, List.nil_append, List.cons_append, List.isEmpty_nil, decide_true, Nat.reduceLT, Bool.and_self, Bool.and_true, and_self, and_true, List.getElem?_cons_zero, List.getElem?_cons_succ, List.nodup_cons, List.nodup_nil, List.mem_cons, List.not_mem_nil, not_false_eq_true, or_false, List.append_nil, mkO, setO_mk, List.mem_singleton]) (by simp [SV.tr, SV.trL])
def a_OneWayTable (f_isMost : FuncId) (f_neederOf : FuncId) (f_oneWay : FuncId) (f_nTable : FuncId) : AFn := ⟨1, 
  .seq (.reg [⟨some 2, none, .d (.mv (.c (.nilsl)))⟩,
    ⟨some 3, none, .d (.mv (.c (.bool false)))⟩])
  (.seq (.seq (.reg [⟨some 4, none, .d (.mv (.t 0))⟩,
    ⟨some 5, none, .d (.call (.f f_isMost) [(.t 4)])⟩,
    ⟨some 6, none, .d (.not (.t 5))⟩])
  (.cond (.t 6) (.seq (.reg [⟨some 2, none, .d (.mv (.c (.nilsl)))⟩,
     ⟨some 3, none, .d (.mv (.c (.bool false)))⟩])
   (.ret)) (.skip)))
  (.seq (.reg [⟨some 7, none, .d (.call (.f f_neederOf) [(.f f_oneWay)])⟩,
    ⟨some 8, none, .d (.mv (.t 0))⟩,
    ⟨some 9, none, .w (.callL (.f f_nTable) [(.t 7), (.t 8)] [] 1 false)⟩,
    ⟨some 2, none, .d (.mv (.t 9))⟩,
    ⟨some 3, none, .d (.mv (.c (.bool true)))⟩])
  (.ret))), [.tmp 2, .tmp 3]⟩
def n_OneWayTable : Nat → Option Ann := fun d => if d = 9 then some ⟨[], 1, false⟩ else none
abbrev k_OneWayTable : List Nat := [0, 2, 3, 6]
abbrev o_OneWayTable : List Nat := [9]
def a_s_OneWayTable (f_l1In : FuncId) (f_l10Needs : FuncId) (f_countsOf : FuncId) (f_l4Key : FuncId) : AFn := ⟨1, 
  .seq (.reg [⟨some 2, none, .d (.mv (.c (.nilsl)))⟩,
    ⟨some 3, none, .d (.mv (.c (.bool false)))⟩])
  (.seq (.reg [⟨some 7, none, .w (.bslice 1 [] [])⟩,
    ⟨some 4, none, .d (.mv (.t 7))⟩])
  (.seq (.seq (.reg [⟨some 8, none, .d (.mv (.t 0))⟩,
    ⟨some 9, none, .d (.call (.f f_l1In) [(.t 8), (.c (.int .i64 0)), (.c (.int .i64 2))])⟩,
    ⟨some 10, none, .d (.not (.t 9))⟩])
  (.cond (.t 10) (.seq (.reg [⟨some 11, none, .d (.mv (.t 4))⟩,
     ⟨some 2, none, .d (.mv (.t 11))⟩,
     ⟨some 3, none, .d (.mv (.c (.bool false)))⟩])
   (.ret)) (.skip)))
  (.seq (.reg [⟨some 12, none, .d (.mv (.t 0))⟩,
    ⟨some 13, none, .d (.bin .arith .add (.t 12) (.c (.int .i64 1)))⟩,
    ⟨some 14, none, .d (.call (.f f_l10Needs) [(.t 13)])⟩,
    ⟨some 5, none, .d (.mv (.t 14))⟩])
  (.seq (.seq (.reg [⟨some 6, none, .d (.mv (.c (.int .i64 1)))⟩])
  (.block 0 (.loop (.seq (.seq (.reg [⟨some 15, none, .d (.mv (.t 6))⟩,
      ⟨some 16, none, .d (.bin .arith .leq (.t 15) (.c (.int .i64 8)))⟩])
    (.cond (.t 16) (.skip) (.exit 0)))
    (.seq (.block 1 (.reg [⟨some 19, none, .d (.mv (.t 4))⟩,
       ⟨some 20, none, .d (.mv (.t 5))⟩,
       ⟨some 21, none, .d (.mv (.t 6))⟩,
       ⟨some 22, none, .d (.mv (.t 0))⟩,
       ⟨some 23, none, .d (.call (.f f_countsOf) [(.t 21), (.t 22)])⟩,
       ⟨some 24, none, .d (.call (.f f_l4Key) [(.t 23)])⟩,
       ⟨some 25, none, .d (.ia 1 (.t 20) (.t 24))⟩,
       ⟨some 26, none, .d (.load false 1 (.t 25))⟩,
       ⟨some 27, none, .w (.bslice 1 [.int .i64 0] [(0, (.t 26))])⟩,
       ⟨some 28, none, .w (.append 1 (.t 19) (.t 27))⟩,
       ⟨some 4, none, .d (.mv (.t 28))⟩]))
    (.reg [⟨some 17, none, .d (.mv (.t 6))⟩,
      ⟨some 18, none, .d (.bin .arith .add (.t 17) (.c (.int .i64 1)))⟩,
      ⟨some 6, none, .d (.mv (.t 18))⟩]))))))
  (.seq (.reg [⟨some 29, none, .d (.mv (.t 4))⟩,
    ⟨some 2, none, .d (.mv (.t 29))⟩,
    ⟨some 3, none, .d (.mv (.c (.bool true)))⟩])
  (.ret)))))), [.tmp 2, .tmp 3]⟩
def n_s_OneWayTable : Nat → Option Ann := fun _ => none
abbrev k_s_OneWayTable : List Nat := [0, 2, 3, 4, 5, 6, 10, 16]
abbrev o_s_OneWayTable : List Nat := [7, 27, 28]
def c_OneWayTable : Con := pure' fun
  | [.p (.int .i64 m)] => if (True) then some (if (decide (0 ≤ m) && decide (m ≤ 2)) = true then .tp [.ar 2000000, .p (.bool true)] else .tp [.p .nilsl, .p (.bool false)], if (decide (0 ≤ m) && decide (m ≤ 2)) = true then [.arr 1 (ints (taF (gF false m) 8))] else []) else none
  | _ => none
theorem s_OneWayTable {P : Program} (hm : P.follows .mixedOrders = true) {Γ : Gam} (hΓ : GS P Γ) {n : FuncId} {f_isMost : FuncId} {f_neederOf : FuncId} {f_oneWay : FuncId} {f_nTable : FuncId} (is : Is P n (a_OneWayTable f_isMost f_neederOf f_oneWay f_nTable)) (h_isMost : Γ f_isMost = c_isMost) (h_nTable : Γ f_nTable = c_nTable) {Γ1 : Gam} (h_neederOf : Γ f_neederOf = c_neederOf Γ1) (h_oneWay : Γ1 f_oneWay = c_oneWay) : Says P n c_OneWayTable := by
  refine Says.pure fun args r fs h => ?_
  split at h
  case h_2 => cases h
  rename_i m
  split at h
  case isFalse => cases h
  rename_i hc
  simp only [ofI_ints, ofBo_bools, ofAs_asks, Option.some.injEq, Prod.mk.injEq] at h hc
  obtain ⟨rfl, rfl⟩ := h
  cases h2 : (decide (0 ≤ m) && decide (m ≤ 2)) with
  | false =>
    refine is.go hm hΓ k_OneWayTable o_OneWayTable (by simp [a_OneWayTable]) ?_
    simp only [a_OneWayTable, h_isMost, c_isMost, h_nTable, c_nTable, h2, Bool.false_eq_true, List.zipIdx_cons, List.zipIdx_nil, ↓SP, SQ, Gam.add, stepM, callC, argC, lendO, nmBy, nmC, likeL, likeB, plainOb, offs, X, F, trP, trO, stepD, stepW, newA, SV.tr, SV.trL, fz, allP, Ob.tr, loadA, cellsA, SV.cells, binA, binI, eqOut, isSl, isPt, natOf, callee, snap, SV.refsL, SV.refs, thaw, fzAll, loA, hiA, elemOf, partsA, buildA, putCells, ↓reduceIte, reduceCtorEq, okCell, Nat.reduceAdd, Nat.reduceEqDiff, Nat.reduceSub, Nat.reduceMul, Nat.reduceLeDiff, Nat.reduceLT, Nat.reduceBEq, PV.scal, PV.scalL, SV.scal, SV.scalL, Ob.scal, PV.isCell, pure', resO]
    refine finA_gen [] trivial (by simp [retA, rvA, List.mapM_cons, List.mapM_nil, Option.pure_def, Option.bind_eq_bind, Option.bind_some, Option.map_some, mkE_cons, mk_nil, mkO_cons, mkO_nil, loadA, ↓reduceIte, List.take_succ_cons, List.take_zero, List.drop_zero, List.drop_succ_cons, List.length_cons, List.length_nil, Nat.reduceAdd, Nat.reduceEqDiff, Nat.reduceLeDiff, Nat.zero_add, Nat.le_refl, reduceCtorEq, SV.tr, SV.trL, nmF, rn_nil, rn_cons1, rn_cons2, List.map_cons, List.map_nil, List.all_cons, List.all_nil, plainOb, SV.refsL, SV.refs, Ob.refs, X, F, List.range_succ, List.range_zero, List.nil_append, List.cons_append, List.isEmpty_nil, decide_true, Nat.reduceLT, Bool.and_self, Bool.and_true, and_self, and_true, List.getElem?_cons_zero, List.getElem?_cons_succ, List.nodup_cons, List.nodup_nil, List.mem_cons, List.not_mem_nil, not_false_eq_true, or_false, List.append_nil, mkO, setO_mk, List.mem_singleton]; rfl) ?_ ?_ ?_ ?_ ?_ ?_ ?_ <;> simp [retA, rvA, List.mapM_cons, List.mapM_nil, Option.pure_def, Option.bind_eq_bind, Option.bind_some, Option.map_some, mkE_cons, mk_nil, mkO_cons, mkO_nil, loadA, ↓reduceIte, List.take_succ_cons, List.take_zero, List.drop_zero, List.drop_succ_cons, List.length_cons, List.length_nil, Nat.reduceAdd, Nat.reduceEqDiff, Nat.reduceLeDiff, Nat.zero_add, Nat.le_refl, reduceCtorEq, SV.tr, SV.trL, nmF, rn_nil, rn_cons1, rn_cons2, List.map_cons, List.map_nil, List.all_cons, List.all_nil, plainOb, SV.refsL, SV.refs, Ob.refs, X, F, List.range_succ, List.range_zero, List.nil_append, List.cons_append, List.isEmpty_nil, decide_true, Nat.reduceLT, Bool.and_self, Bool.and_true, and_self, and_true, List.getElem?_cons_zero, List.getElem?_cons_succ, List.nodup_cons, List.nodup_nil, List.mem_cons, List.not_mem_nil, not_false_eq_true, or_false, List.append_nil, mkO, setO_mk, List.mem_singleton]
  | true =>
    have hq2 : 0 ≤ m ∧ m ≤ 2 := by simpa using h2
    have hne := neederOf_one h_oneWay
    have hE := okE_nES false
    have hta : taF (fun k => ofE (nES false) (frL (k : Nat) m)) 8 = taF (gF false m) 8 := taF_congr fun k hk => ofE_nES false (fr_okC (by omega) hq2)
    refine is.go hm hΓ k_OneWayTable o_OneWayTable (by simp [a_OneWayTable]) ?_
    simp only [a_OneWayTable, h_isMost, c_isMost, h_nTable, c_nTable, h2, hq2, h_neederOf, hne, hE, hta, List.zipIdx_cons, List.zipIdx_nil, ↓SP, SQ, Gam.add, stepM, callC, argC, lendO, nmBy, nmC, likeL, likeB, plainOb, offs, X, F, trP, trO, stepD, stepW, newA, SV.tr, SV.trL, fz, allP, Ob.tr, loadA, cellsA, SV.cells, binA, binI, eqOut, isSl, isPt, natOf, callee, snap, SV.refsL, SV.refs, thaw, fzAll, loA, hiA, elemOf, partsA, buildA, putCells, ↓reduceIte, reduceCtorEq, okCell, Nat.reduceAdd, Nat.reduceEqDiff, Nat.reduceSub, Nat.reduceMul, Nat.reduceLeDiff, Nat.reduceLT, Nat.reduceBEq, PV.scal, PV.scalL, SV.scal, SV.scalL, Ob.scal, PV.isCell, pure', resO]
    refine finA_gen [9] trivial (by simp [retA, rvA, List.mapM_cons, List.mapM_nil, Option.pure_def, Option.bind_eq_bind, Option.bind_some, Option.map_some, mkE_cons, mk_nil, mkO_cons, mkO_nil, loadA, ↓reduceIte, List.take_succ_cons, List.take_zero, List.drop_zero, List.drop_succ_cons, List.length_cons, List.length_nil, Nat.reduceAdd, Nat.reduceEqDiff, Nat.reduceLeDiff, Nat.zero_add, Nat.le_refl, reduceCtorEq, SV.tr, SV.trL, nmF, rn_nil, rn_cons1, rn_cons2, List.map_cons, List.map_nil, List.all_cons, List.all_nil, plainOb, SV.refsL, SV.refs, Ob.refs, X, F, List.range_succ, List.range_zero, List.nil_append, List.cons_append, List.isEmpty_nil, decide_true, Nat.reduceLT, Bool.and_self, Bool.and_true, and_self, and_true, List.getElem?_cons_zero, List.getElem?_cons_succ, List.nodup_cons, List.nodup_nil, List.mem_cons, List.not_mem_nil, not_false_eq_true, or_false, List.append_nil, mkO, setO_mk, List.mem_singleton]; rfl) ?_ ?_ ?_ ?_ ?_ ?_ ?_ <;> simp [retA, rvA, List.mapM_cons, List.mapM_nil, Option.pure_def, Option.bind_eq_bind, Option.bind_some, Option.map_some, mkE_cons, mk_nil, mkO_cons, mkO_nil, loadA, ↓reduceIte, List.take_succ_cons, List.take_zero, List.drop_zero, List.drop_succ_cons, List.length_cons, List.length_nil, Nat.reduceAdd, Nat.reduceEqDiff, Nat.reduceLeDiff, Nat.zero_add, Nat.le_refl, reduceCtorEq, SV.tr, SV.trL, nmF, rn_nil, rn_cons1, rn_cons2, List.map_cons, List.map_nil, List.all_cons, List.all_nil, plainOb, SV.refsL, SV.refs, Ob.refs, X, F, List.range_succ, List.range_zero, List.nil_append, List.cons_append, List.isEmpty_nil, decide_true, Nat.reduceLT, Bool.and_self, Bool.and_true, and_self, and_true, List.getElem?_cons_zero, List.getElem?_cons_succ, List.nodup_cons, List.nodup_nil, List.mem_cons, List.not_mem_nil, not_false_eq_true, or_false, List.append_nil, mkO, setO_mk, List.mem_singleton]
def c_s_OneWayTable : Con := pure' fun
  | [.p (.int .i64 m)] => if (True) then some (.tp [.ar 2000000, .p (.bool (decide (0 ≤ m) && decide (m ≤ 2)))], [.arr 1 (ints (if (decide (0 ≤ m) && decide (m ≤ 2)) = true then taF (gF false m) 8 else []))]) else none
  | _ => none
theorem s_s_OneWayTable {P : Program} (hm : P.follows .mixedOrders = true) {Γ : Gam} (hΓ : GS P Γ) {n : FuncId} {f_l1In : FuncId} {f_l10Needs : FuncId} {f_countsOf : FuncId} {f_l4Key : FuncId} (is : Is P n (a_s_OneWayTable f_l1In f_l10Needs f_countsOf f_l4Key)) (h_l1In : Γ f_l1In = c_in) (h_l10Needs : Γ f_l10Needs = c_l10Needs) (h_countsOf : Γ f_countsOf = c_countsOf) (h_l4Key : Γ f_l4Key = c_l4Key)  : Says P n c_s_OneWayTable := by
  refine Says.pure fun args r fs h => ?_
  split at h
  case h_2 => cases h
  rename_i m
  split at h
  case isFalse => cases h
  rename_i hc
  simp only [ofI_ints, ofBo_bools, ofAs_asks, Option.some.injEq, Prod.mk.injEq] at h hc
  obtain ⟨rfl, rfl⟩ := h
  cases h2 : (decide (0 ≤ m) && decide (m ≤ 2)) with
  | false =>
    refine is.go hm hΓ k_s_OneWayTable o_s_OneWayTable (by simp [a_s_OneWayTable]) ?_
    simp only [a_s_OneWayTable, h_l1In, c_in, h_l10Needs, c_l10Needs, h_countsOf, c_countsOf, h_l4Key, c_l4Key, h2, Bool.false_eq_true, List.zipIdx_cons, List.zipIdx_nil, ↓SP, SQ, Gam.add, stepM, callC, argC, lendO, nmBy, nmC, likeL, likeB, plainOb, offs, X, F, trP, trO, stepD, stepW, newA, SV.tr, SV.trL, fz, allP, Ob.tr, loadA, cellsA, SV.cells, binA, binI, eqOut, isSl, isPt, natOf, callee, snap, SV.refsL, SV.refs, thaw, fzAll, loA, hiA, elemOf, partsA, buildA, putCells, ↓reduceIte, reduceCtorEq, okCell, Nat.reduceAdd, Nat.reduceEqDiff, Nat.reduceSub, Nat.reduceMul, Nat.reduceLeDiff, Nat.reduceLT, Nat.reduceBEq, PV.scal, PV.scalL, SV.scal, SV.scalL, Ob.scal, PV.isCell, pure', resO]
    refine finA_gen [7] trivial (by simp [retA, rvA, List.mapM_cons, List.mapM_nil, Option.pure_def, Option.bind_eq_bind, Option.bind_some, Option.map_some, mkE_cons, mk_nil, mkO_cons, mkO_nil, loadA, ↓reduceIte, List.take_succ_cons, List.take_zero, List.drop_zero, List.drop_succ_cons, List.length_cons, List.length_nil, Nat.reduceAdd, Nat.reduceEqDiff, Nat.reduceLeDiff, Nat.zero_add, Nat.le_refl, reduceCtorEq, SV.tr, SV.trL, nmF, rn_nil, rn_cons1, rn_cons2, List.map_cons, List.map_nil, List.all_cons, List.all_nil, plainOb, SV.refsL, SV.refs, Ob.refs, X, F, List.range_succ, List.range_zero, List.nil_append, List.cons_append, List.isEmpty_nil, decide_true, Nat.reduceLT, Bool.and_self, Bool.and_true, and_self, and_true, List.getElem?_cons_zero, List.getElem?_cons_succ, List.nodup_cons, List.nodup_nil, List.mem_cons, List.not_mem_nil, not_false_eq_true, or_false, List.append_nil, mkO, setO_mk, List.mem_singleton]; rfl) ?_ ?_ ?_ ?_ ?_ ?_ ?_ <;> simp [ints, retA, rvA, List.mapM_cons, List.mapM_nil, Option.pure_def, Option.bind_eq_bind, Option.bind_some, Option.map_some, mkE_cons, mk_nil, mkO_cons, mkO_nil, loadA, ↓reduceIte, List.take_succ_cons, List.take_zero, List.drop_zero, List.drop_succ_cons, List.length_cons, List.length_nil, Nat.reduceAdd, Nat.reduceEqDiff, Nat.reduceLeDiff, Nat.zero_add, Nat.le_refl, reduceCtorEq, SV.tr, SV.trL, nmF, rn_nil, rn_cons1, rn_cons2, List.map_cons, List.map_nil, List.all_cons, List.all_nil, plainOb, SV.refsL, SV.refs, Ob.refs, X, F, List.range_succ, List.range_zero, List.nil_append, List.cons_append, List.isEmpty_nil, decide_true, Nat.reduceLT, Bool.and_self, Bool.and_true, and_self, and_true, List.getElem?_cons_zero, List.getElem?_cons_succ, List.nodup_cons, List.nodup_nil, List.mem_cons, List.not_mem_nil, not_false_eq_true, or_false, List.append_nil, mkO, setO_mk, List.mem_singleton]
  | true =>
    have hq2 : 0 ≤ m ∧ m ≤ 2 := by simpa using h2
    obtain ⟨mm, rfl⟩ : ∃ j : Nat, m = j := ⟨m.toNat, by omega⟩
    have hwm := wrap_one (i := mm) (by omega)
    have m1 : (1 : Int) ≤ ((mm + 1 : Nat) : Int) := by omega
    have m3 : ((mm + 1 : Nat) : Int) ≤ 3 := by omega
    refine is.go hm hΓ k_s_OneWayTable o_s_OneWayTable (by simp [a_s_OneWayTable]) ?_
    simp only [a_s_OneWayTable, h_l1In, c_in, h_l10Needs, c_l10Needs, h_countsOf, c_countsOf, h_l4Key, c_l4Key, h2, hq2.1, hq2.2, hwm, m1, m3, Int.toNat_natCast, List.zipIdx_cons, List.zipIdx_nil, ↓SP, SQ, Gam.add, stepM, callC, argC, lendO, nmBy, nmC, likeL, likeB, plainOb, offs, X, F, trP, trO, stepD, stepW, newA, SV.tr, SV.trL, fz, allP, Ob.tr, loadA, cellsA, SV.cells, binA, binI, eqOut, isSl, isPt, natOf, callee, snap, SV.refsL, SV.refs, thaw, fzAll, loA, hiA, elemOf, partsA, buildA, putCells, ↓reduceIte, reduceCtorEq, okCell, Nat.reduceAdd, Nat.reduceEqDiff, Nat.reduceSub, Nat.reduceMul, Nat.reduceLeDiff, Nat.reduceLT, Nat.reduceBEq, PV.scal, PV.scalL, SV.scal, SV.scalL, Ob.scal, PV.isCell, pure', resO]
    refine loop_at (fun s : Nat × SV × Option Ob => mkEnv [(0, si mm), (2, .p .nilsl), (3, sb false), (4, .ar 7), (5, .p (.sl 1 (ints (tabK (ntT tabO) (mm + 1) 6)))), (6, si ((s.1 + 1 : Nat) : Int)), (10, sb false), (16, s.2.1)]) (fun s => mkO [(7, some (.arr 1 (ints (taF (gF false mm) s.1)))), (27, s.2.2), (28, none)]) (fun s => s.1 ≤ 8) (fun s => 8 - s.1) (0, .junk, none) (by simp) rfl rfl ?_
    rintro ⟨n, c1, ob⟩ hn R0 hR hN
    simp only at hn
    by_cases h : n < 8
    · have h3 : ((n + 1 : Nat) : Int) ≤ 8 := by omega
      have hw := wrap_one (i := n + 1) (by omega)
      have hfo := fr_okC (n := n + 1) (m := mm) (by omega) hq2
      obtain ⟨⟨f1, f3⟩, f8, _⟩ := okC_out hfo
      have hfl : (frL ((n + 1 : Nat) : Int) mm).length = mm + 1 := by simp [frL]
      obtain ⟨k0, k1⟩ := keyN_bd (p := mm + 1) hfl f8
      have hkk : (keyL (frL ((n + 1 : Nat) : Int) mm)).toNat = keyN (frL ((n + 1 : Nat) : Int) mm) := rfl
      have hg := ints_get (l := tabK (ntT tabO) (mm + 1) 6) (i := keyN (frL ((n + 1 : Nat) : Int) mm)) (by rw [tabK_len]; exact k1)
      have htn := (tab_nd hfo).2
      rw [hfl] at htn
      have htn2 : (tabK (ntT tabO) (mm + 1) 6).getD (keyN (frL ((n + 1 : Nat) : Int) mm)) 0 = gF false mm (n + 1) := htn
      rw [htn2] at hg
      have hta := taF_one (gF false mm) n
      have hr : (taF (gF false mm) n).length + 1 ≤ roomA := by rw [taF_len]; unfold roomA; omega
      simp only [h3, hw, hq2, f3, f8, k0, hkk, hg, hta, hr, ints_len, ints_app1, ints_cell, h_countsOf, c_countsOf, h_l4Key, c_l4Key, isI_ints, ofI_ints, ↓SP, SQ, Gam.add, stepM, callC, argC, lendO, nmBy, nmC, likeL, likeB, plainOb, offs, X, F, trP, trO, stepD, stepW, newA, SV.tr, SV.trL, fz, allP, Ob.tr, loadA, cellsA, SV.cells, binA, binI, eqOut, isSl, isPt, natOf, callee, snap, SV.refsL, SV.refs, thaw, fzAll, loA, hiA, elemOf, partsA, buildA, putCells, ↓reduceIte, reduceCtorEq, okCell, Nat.reduceAdd, Nat.reduceEqDiff, Nat.reduceSub, Nat.reduceMul, Nat.reduceLeDiff, Nat.reduceLT, Nat.reduceBEq, PV.scal, PV.scalL, SV.scal, SV.scalL, Ob.scal, PV.isCell, pure', resO]
      exact hN (n + 1, _, _) _ _ (by simp only; omega) (by simp only; omega) rfl rfl
    · have he : n = 8 := by omega
      subst he
      have h3 : ¬ ((8 + 1 : Nat) : Int) ≤ 8 := by omega
      simp only [h3, ↓SP, SQ, Gam.add, stepM, callC, argC, lendO, nmBy, nmC, likeL, likeB, plainOb, offs, X, F, trP, trO, stepD, stepW, newA, SV.tr, SV.trL, fz, allP, Ob.tr, loadA, cellsA, SV.cells, binA, binI, eqOut, isSl, isPt, natOf, callee, snap, SV.refsL, SV.refs, thaw, fzAll, loA, hiA, elemOf, partsA, buildA, putCells, ↓reduceIte, reduceCtorEq, okCell, Nat.reduceAdd, Nat.reduceEqDiff, Nat.reduceSub, Nat.reduceMul, Nat.reduceLeDiff, Nat.reduceLT, Nat.reduceBEq, PV.scal, PV.scalL, SV.scal, SV.scalL, Ob.scal, PV.isCell, pure', resO]
      refine hR _ _ _ (by intro h; cases h) ?_
      simp only [↓SP, SQ, Gam.add, stepM, callC, argC, lendO, nmBy, nmC, likeL, likeB, plainOb, offs, X, F, trP, trO, stepD, stepW, newA, SV.tr, SV.trL, fz, allP, Ob.tr, loadA, cellsA, SV.cells, binA, binI, eqOut, isSl, isPt, natOf, callee, snap, SV.refsL, SV.refs, thaw, fzAll, loA, hiA, elemOf, partsA, buildA, putCells, ↓reduceIte, reduceCtorEq, okCell, Nat.reduceAdd, Nat.reduceEqDiff, Nat.reduceSub, Nat.reduceMul, Nat.reduceLeDiff, Nat.reduceLT, Nat.reduceBEq, PV.scal, PV.scalL, SV.scal, SV.scalL, Ob.scal, PV.isCell, pure', resO]
      refine finA_gen [7] trivial (by simp [retA, rvA, List.mapM_cons, List.mapM_nil, Option.pure_def, Option.bind_eq_bind, Option.bind_some, Option.map_some, mkE_cons, mk_nil, mkO_cons, mkO_nil, loadA, ↓reduceIte, List.take_succ_cons, List.take_zero, List.drop_zero, List.drop_succ_cons, List.length_cons, List.length_nil, Nat.reduceAdd, Nat.reduceEqDiff, Nat.reduceLeDiff, Nat.zero_add, Nat.le_refl, reduceCtorEq, SV.tr, SV.trL, nmF, rn_nil, rn_cons1, rn_cons2, List.map_cons, List.map_nil, List.all_cons, List.all_nil, plainOb, SV.refsL, SV.refs, Ob.refs, X, F, List.range_succ, List.range_zero, List.nil_append, List.cons_append, List.isEmpty_nil, decide_true, Nat.reduceLT, Bool.and_self, Bool.and_true, and_self, and_true, List.getElem?_cons_zero, List.getElem?_cons_succ, List.nodup_cons, List.nodup_nil, List.mem_cons, List.not_mem_nil, not_false_eq_true, or_false, List.append_nil, mkO, setO_mk, List.mem_singleton]; rfl) ?_ ?_ ?_ ?_ ?_ ?_ ?_ <;> simp [retA, rvA, List.mapM_cons, List.mapM_nil, Option.pure_def, Option.bind_eq_bind, Option.bind_some, Option.map_some, mkE_cons, mk_nil, mkO_cons, mkO_nil, loadA, ↓reduceIte, List.take_succ_cons, List.take_zero, List.drop_zero, List.drop_succ_cons, List.length_cons, List.length_nil, Nat.reduceAdd, Nat.reduceEqDiff, Nat.reduceLeDiff, Nat.zero_add, Nat.le_refl, reduceCtorEq, SV.tr, SV.trL, nmF, rn_nil, rn_cons1, rn_cons2, List.map_cons, List.map_nil, List.all_cons, List.all_nil, plainOb, SV.refsL, SV.refs, Ob.refs, X, F, List.range_succ, List.range_zero, List.nil_append, List.cons_append, List.isEmpty_nil, decide_true, Nat.reduceLT, Bool.and_self, Bool.and_true, and_self, and_true, List.getElem?_cons_zero, List.getElem?_cons_succ, List.nodup_cons, List.nodup_nil, List.mem_cons, List.not_mem_nil, not_false_eq_true, or_false, List.append_nil, mkO, setO_mk, List.mem_singleton]
def a_SavedOneWay (f_AreCounts : FuncId) (f_neederOf : FuncId) (f_bothWays : FuncId) (f_nOf : FuncId) (f_oneWay : FuncId) : AFn := ⟨1, 
  .seq (.reg [⟨some 2, none, .d (.mv (.c (.int .i64 0)))⟩,
    ⟨some 3, none, .d (.mv (.c (.bool false)))⟩])
  (.seq (.seq (.reg [⟨some 4, none, .d (.mv (.t 0))⟩,
    ⟨some 5, none, .d (.call (.f f_AreCounts) [(.t 4)])⟩,
    ⟨some 6, none, .d (.not (.t 5))⟩])
  (.cond (.t 6) (.seq (.reg [⟨some 2, none, .d (.mv (.c (.int .i64 0)))⟩,
     ⟨some 3, none, .d (.mv (.c (.bool false)))⟩])
   (.ret)) (.skip)))
  (.seq (.reg [⟨some 7, none, .d (.call (.f f_neederOf) [(.f f_bothWays)])⟩,
    ⟨some 8, none, .d (.mv (.t 0))⟩,
    ⟨some 9, none, .d (.call (.f f_nOf) [(.t 7), (.t 8)])⟩,
    ⟨some 10, none, .d (.call (.f f_neederOf) [(.f f_oneWay)])⟩,
    ⟨some 11, none, .d (.mv (.t 0))⟩,
    ⟨some 12, none, .d (.call (.f f_nOf) [(.t 10), (.t 11)])⟩,
    ⟨some 13, none, .d (.bin .arith .sub (.t 9) (.t 12))⟩,
    ⟨some 2, none, .d (.mv (.t 13))⟩,
    ⟨some 3, none, .d (.mv (.c (.bool true)))⟩])
  (.ret))), [.tmp 2, .tmp 3]⟩
def n_SavedOneWay : Nat → Option Ann := fun _ => none
abbrev k_SavedOneWay : List Nat := [0, 2, 3, 6]
abbrev o_SavedOneWay : List Nat := []
def a_s_SavedOneWay (f_l4Counts : FuncId) (f_l4Key : FuncId) (f_l4Needs : FuncId) (f_l10Needs : FuncId) : AFn := ⟨1, 
  .seq (.reg [⟨some 2, none, .d (.mv (.c (.int .i64 0)))⟩,
    ⟨some 3, none, .d (.mv (.c (.bool false)))⟩])
  (.seq (.seq (.reg [⟨some 5, none, .d (.mv (.t 0))⟩,
    ⟨some 6, none, .d (.call (.f f_l4Counts) [(.t 5)])⟩,
    ⟨some 7, none, .d (.not (.t 6))⟩])
  (.cond (.t 7) (.seq (.reg [⟨some 2, none, .d (.mv (.c (.int .i64 0)))⟩,
     ⟨some 3, none, .d (.mv (.c (.bool false)))⟩])
   (.ret)) (.skip)))
  (.seq (.reg [⟨some 8, none, .d (.mv (.t 0))⟩,
    ⟨some 9, none, .d (.call (.f f_l4Key) [(.t 8)])⟩,
    ⟨some 4, none, .d (.mv (.t 9))⟩])
  (.seq (.dreg [] [([], ⟨some 10, none, .d (.mv (.t 0))⟩),
    ([], ⟨some 11, none, .d (.len (.t 10))⟩),
    ([], ⟨some 12, none, .d (.call (.f f_l4Needs) [(.t 11)])⟩),
    ([], ⟨some 13, none, .d (.mv (.t 4))⟩),
    ([], ⟨some 14, none, .d (.ia 1 (.t 12) (.t 13))⟩),
    ([], ⟨some 15, none, .d (.load false 1 (.t 14))⟩),
    ([], ⟨some 16, none, .d (.mv (.t 0))⟩),
    ([], ⟨some 17, none, .d (.len (.t 16))⟩),
    ([], ⟨some 18, none, .d (.call (.f f_l10Needs) [(.t 17)])⟩),
    ([], ⟨some 19, none, .d (.mv (.t 4))⟩),
    ([], ⟨some 20, none, .d (.ia 1 (.t 18) (.t 19))⟩),
    ([], ⟨some 21, none, .d (.load false 1 (.t 20))⟩)] [⟨some 22, none, .d (.bin .arith .sub (.t 15) (.t 21))⟩,
    ⟨some 2, none, .d (.mv (.t 22))⟩,
    ⟨some 3, none, .d (.mv (.c (.bool true)))⟩])
  (.ret)))), [.tmp 2, .tmp 3]⟩
def n_s_SavedOneWay : Nat → Option Ann := fun _ => none
abbrev k_s_SavedOneWay : List Nat := [0, 2, 3, 4, 7]
abbrev o_s_SavedOneWay : List Nat := []
def c_SavedOneWay : Con := pure' fun
  | [.p (.sl 1 c_)] => if isI c_ = true ∧ ((ofI c_).length ≤ 1100000) then some (.tp [.p (.int .i64 (if okC (ofI c_) = true then ndI true (ofI c_) - ndI false (ofI c_) else 0)), .p (.bool (okC (ofI c_)))], []) else none
  | _ => none
theorem s_SavedOneWay {P : Program} (hm : P.follows .mixedOrders = true) {Γ : Gam} (hΓ : GS P Γ) {n : FuncId} {f_AreCounts : FuncId} {f_neederOf : FuncId} {f_bothWays : FuncId} {f_nOf : FuncId} {f_oneWay : FuncId} (is : Is P n (a_SavedOneWay f_AreCounts f_neederOf f_bothWays f_nOf f_oneWay)) (h_AreCounts : Γ f_AreCounts = c_AreCounts) (h_nOf : Γ f_nOf = c_nOf) {Γ1 : Gam} (h_neederOf : Γ f_neederOf = c_neederOf Γ1) (h_bothWays : Γ1 f_bothWays = c_bothWays) (h_oneWay : Γ1 f_oneWay = c_oneWay) : Says P n c_SavedOneWay := by
  refine Says.pure fun args r fs h => ?_
  split at h
  case h_2 => cases h
  rename_i c_
  split at h
  case isFalse => cases h
  rename_i hc
  obtain ⟨hc_, hc⟩ := hc
  obtain ⟨c, rfl⟩ := isI_out hc_
  simp only [ofI_ints, ofBo_bools, ofAs_asks, Option.some.injEq, Prod.mk.injEq] at h hc
  obtain ⟨rfl, rfl⟩ := h
  cases h1 : okC c with
  | false =>
    refine is.go hm hΓ k_SavedOneWay o_SavedOneWay (by simp [a_SavedOneWay]) ?_
    simp only [a_SavedOneWay, h_AreCounts, c_AreCounts, h_nOf, c_nOf, hc, h1, Bool.false_eq_true, List.zipIdx_cons, List.zipIdx_nil, ↓SP, SQ, Gam.add, stepM, callC, argC, lendO, nmBy, nmC, likeL, likeB, plainOb, offs, X, F, trP, trO, stepD, stepW, newA, SV.tr, SV.trL, fz, allP, Ob.tr, loadA, cellsA, SV.cells, binA, binI, eqOut, isSl, isPt, natOf, callee, snap, SV.refsL, SV.refs, thaw, fzAll, loA, hiA, elemOf, partsA, buildA, putCells, ↓reduceIte, reduceCtorEq, okCell, Nat.reduceAdd, Nat.reduceEqDiff, Nat.reduceSub, Nat.reduceMul, Nat.reduceLeDiff, Nat.reduceLT, Nat.reduceBEq, PV.scal, PV.scalL, SV.scal, SV.scalL, Ob.scal, PV.isCell, pure', resO]
    exact finA_val (by simp [retA, rvA, List.mapM_cons, List.mapM_nil, Option.pure_def, Option.bind_eq_bind, Option.bind_some, Option.map_some, mkE_cons, mk_nil, mkO_cons, mkO_nil, loadA, ↓reduceIte, List.take_succ_cons, List.take_zero, List.drop_zero, List.drop_succ_cons, List.length_cons, List.length_nil, Nat.reduceAdd, Nat.reduceEqDiff, Nat.reduceLeDiff, Nat.zero_add, Nat.le_refl, reduceCtorEq, SV.tr, SV.trL, nmF, rn_nil, rn_cons1, rn_cons2, List.map_cons, List.map_nil, List.all_cons, List.all_nil, plainOb, SV.refsL, SV.refs, Ob.refs, X, F, List.range_succ, List.range_zero, List.nil_append, List.cons_append, List.isEmpty_nil, decide_true, Nat.reduceLT, Bool.and_self, Bool.and_true, and_self, and_true, List.getElem?_cons_zero, List.getElem?_cons_succ, List.nodup_cons, List.nodup_nil, List.mem_cons, List.not_mem_nil, not_false_eq_true, or_false, List.append_nil, mkO, setO_mk, List.mem_singleton]) (by simp [SV.tr, SV.trL])
  | true =>
    have hne := neederOf_both h_bothWays
    have hne2 := neederOf_one h_oneWay
    obtain ⟨⟨l1, l3⟩, h8, _⟩ := okC_out h1
    have hE := okE_nES true
    have hE2 := okE_nES false
    have hof := ofE_nES true h1
    have hof2 := ofE_nES false h1
    have b1 := ndI_bd true h1
    have b2 := ndI_bd false h1
    have hw : IntKind.i64.wrap (ndI true c - ndI false c) = ndI true c - ndI false c := wrap64 (by omega) (by omega)
    refine is.go hm hΓ k_SavedOneWay o_SavedOneWay (by simp [a_SavedOneWay]) ?_
    simp only [a_SavedOneWay, h_AreCounts, c_AreCounts, h_nOf, c_nOf, hc, h1, h_neederOf, hne, hne2, l1, l3, hE, hE2, hof, hof2, hw, isI_ints, ofI_ints, ints_len, List.zipIdx_cons, List.zipIdx_nil, ↓SP, SQ, Gam.add, stepM, callC, argC, lendO, nmBy, nmC, likeL, likeB, plainOb, offs, X, F, trP, trO, stepD, stepW, newA, SV.tr, SV.trL, fz, allP, Ob.tr, loadA, cellsA, SV.cells, binA, binI, eqOut, isSl, isPt, natOf, callee, snap, SV.refsL, SV.refs, thaw, fzAll, loA, hiA, elemOf, partsA, buildA, putCells, ↓reduceIte, reduceCtorEq, okCell, Nat.reduceAdd, Nat.reduceEqDiff, Nat.reduceSub, Nat.reduceMul, Nat.reduceLeDiff, Nat.reduceLT, Nat.reduceBEq, PV.scal, PV.scalL, SV.scal, SV.scalL, Ob.scal, PV.isCell, pure', resO]
    exact finA_val (by simp [retA, rvA, List.mapM_cons, List.mapM_nil, Option.pure_def, Option.bind_eq_bind, Option.bind_some, Option.map_some, mkE_cons, mk_nil, mkO_cons, mkO_nil, loadA, ↓reduceIte, List.take_succ_cons, List.take_zero, List.drop_zero, List.drop_succ_cons, List.length_cons, List.length_nil, Nat.reduceAdd, Nat.reduceEqDiff, Nat.reduceLeDiff, Nat.zero_add, Nat.le_refl, reduceCtorEq, SV.tr, SV.trL, nmF, rn_nil, rn_cons1, rn_cons2, List.map_cons, List.map_nil, List.all_cons, List.all_nil, plainOb, SV.refsL, SV.refs, Ob.refs, X, F, List.range_succ, List.range_zero, List.nil_append, List.cons_append, List.isEmpty_nil, decide_true, Nat.reduceLT, Bool.and_self, Bool.and_true, and_self, and_true, List.getElem?_cons_zero, List.getElem?_cons_succ, List.nodup_cons, List.nodup_nil, List.mem_cons, List.not_mem_nil, not_false_eq_true, or_false, List.append_nil, mkO, setO_mk, List.mem_singleton]) (by simp [SV.tr, SV.trL])
theorem s_s_SavedOneWay {P : Program} (hm : P.follows .mixedOrders = true) {Γ : Gam} (hΓ : GS P Γ) {n : FuncId} {f_l4Counts : FuncId} {f_l4Key : FuncId} {f_l4Needs : FuncId} {f_l10Needs : FuncId} (is : Is P n (a_s_SavedOneWay f_l4Counts f_l4Key f_l4Needs f_l10Needs)) (h_l4Counts : Γ f_l4Counts = c_AreCounts) (h_l4Key : Γ f_l4Key = c_l4Key) (h_l4Needs : Γ f_l4Needs = c_l4Needs) (h_l10Needs : Γ f_l10Needs = c_l10Needs)  : Says P n c_SavedOneWay := by
  refine Says.pure fun args r fs h => ?_
  split at h
  case h_2 => cases h
  rename_i c_
  split at h
  case isFalse => cases h
  rename_i hc
  obtain ⟨hc_, hc⟩ := hc
  obtain ⟨c, rfl⟩ := isI_out hc_
  simp only [ofI_ints, ofBo_bools, ofAs_asks, Option.some.injEq, Prod.mk.injEq] at h hc
  obtain ⟨rfl, rfl⟩ := h
  cases h1 : okC c with
  | false =>
    refine is.go hm hΓ k_s_SavedOneWay o_s_SavedOneWay (by simp [a_s_SavedOneWay]) ?_
    simp only [a_s_SavedOneWay, h_l4Counts, c_AreCounts, h_l4Key, c_l4Key, h_l4Needs, c_l4Needs, h_l10Needs, c_l10Needs, hc, h1, Bool.false_eq_true, List.zipIdx_cons, List.zipIdx_nil, ↓SP, SQ, Gam.add, stepM, callC, argC, lendO, nmBy, nmC, likeL, likeB, plainOb, offs, X, F, trP, trO, stepD, stepW, newA, SV.tr, SV.trL, fz, allP, Ob.tr, loadA, cellsA, SV.cells, binA, binI, eqOut, isSl, isPt, natOf, callee, snap, SV.refsL, SV.refs, thaw, fzAll, loA, hiA, elemOf, partsA, buildA, putCells, ↓reduceIte, reduceCtorEq, okCell, Nat.reduceAdd, Nat.reduceEqDiff, Nat.reduceSub, Nat.reduceMul, Nat.reduceLeDiff, Nat.reduceLT, Nat.reduceBEq, PV.scal, PV.scalL, SV.scal, SV.scalL, Ob.scal, PV.isCell, pure', resO]
    exact finA_val (by simp [retA, rvA, List.mapM_cons, List.mapM_nil, Option.pure_def, Option.bind_eq_bind, Option.bind_some, Option.map_some, mkE_cons, mk_nil, mkO_cons, mkO_nil, loadA, ↓reduceIte, List.take_succ_cons, List.take_zero, List.drop_zero, List.drop_succ_cons, List.length_cons, List.length_nil, Nat.reduceAdd, Nat.reduceEqDiff, Nat.reduceLeDiff, Nat.zero_add, Nat.le_refl, reduceCtorEq, SV.tr, SV.trL, nmF, rn_nil, rn_cons1, rn_cons2, List.map_cons, List.map_nil, List.all_cons, List.all_nil, plainOb, SV.refsL, SV.refs, Ob.refs, X, F, List.range_succ, List.range_zero, List.nil_append, List.cons_append, List.isEmpty_nil, decide_true, Nat.reduceLT, Bool.and_self, Bool.and_true, and_self, and_true, List.getElem?_cons_zero, List.getElem?_cons_succ, List.nodup_cons, List.nodup_nil, List.mem_cons, List.not_mem_nil, not_false_eq_true, or_false, List.append_nil, mkO, setO_mk, List.mem_singleton]) (by simp [SV.tr, SV.trL])
  | true =>
    obtain ⟨⟨l1, l3⟩, h8, _⟩ := okC_out h1
    have l1' : (1 : Int) ≤ c.length := by omega
    have l3' : (c.length : Int) ≤ 3 := by omega
    obtain ⟨k0, k1⟩ := keyN_bd (p := c.length) rfl h8
    have hkk : (keyL c).toNat = keyN c := rfl
    have hg := ints_get (l := tabK (ntT tabB) c.length 9) (i := keyN c) (by rw [tabK_len]; exact k1)
    have hg2 := ints_get (l := tabK (ntT tabO) c.length 6) (i := keyN c) (by rw [tabK_len]; exact k1)
    have htn := tab_nd h1
    rw [htn.1] at hg
    rw [htn.2] at hg2
    have b1 := ndI_bd true h1
    have b2 := ndI_bd false h1
    have hw : IntKind.i64.wrap (ndI true c - ndI false c) = ndI true c - ndI false c := wrap64 (by omega) (by omega)
    refine is.go hm hΓ k_s_SavedOneWay o_s_SavedOneWay (by simp [a_s_SavedOneWay]) ?_
    simp only [a_s_SavedOneWay, h_l4Counts, c_AreCounts, h_l4Key, c_l4Key, h_l4Needs, c_l4Needs, h_l10Needs, c_l10Needs, hc, h1, l1', l3', l3, h8, k0, hkk, hg, hg2, hw, Int.toNat_natCast, isI_ints, ofI_ints, ints_len, List.zipIdx_cons, List.zipIdx_nil, ↓SP, SQ, Gam.add, stepM, callC, argC, lendO, nmBy, nmC, likeL, likeB, plainOb, offs, X, F, trP, trO, stepD, stepW, newA, SV.tr, SV.trL, fz, allP, Ob.tr, loadA, cellsA, SV.cells, binA, binI, eqOut, isSl, isPt, natOf, callee, snap, SV.refsL, SV.refs, thaw, fzAll, loA, hiA, elemOf, partsA, buildA, putCells, ↓reduceIte, reduceCtorEq, okCell, Nat.reduceAdd, Nat.reduceEqDiff, Nat.reduceSub, Nat.reduceMul, Nat.reduceLeDiff, Nat.reduceLT, Nat.reduceBEq, PV.scal, PV.scalL, SV.scal, SV.scalL, Ob.scal, PV.isCell, pure', resO]
    exact finA_val (by simp [retA, rvA, List.mapM_cons, List.mapM_nil, Option.pure_def, Option.bind_eq_bind, Option.bind_some, Option.map_some, mkE_cons, mk_nil, mkO_cons, mkO_nil, loadA, ↓reduceIte, List.take_succ_cons, List.take_zero, List.drop_zero, List.drop_succ_cons, List.length_cons, List.length_nil, Nat.reduceAdd, Nat.reduceEqDiff, Nat.reduceLeDiff, Nat.zero_add, Nat.le_refl, reduceCtorEq, SV.tr, SV.trL, nmF, rn_nil, rn_cons1, rn_cons2, List.map_cons, List.map_nil, List.all_cons, List.all_nil, plainOb, SV.refsL, SV.refs, Ob.refs, X, F, List.range_succ, List.range_zero, List.nil_append, List.cons_append, List.isEmpty_nil, decide_true, Nat.reduceLT, Bool.and_self, Bool.and_true, and_self, and_true, List.getElem?_cons_zero, List.getElem?_cons_succ, List.nodup_cons, List.nodup_nil, List.mem_cons, List.not_mem_nil, not_false_eq_true, or_false, List.append_nil, mkO, setO_mk, List.mem_singleton]) (by simp [SV.tr, SV.trL])
end Go.Proofs.Ytmncbkkpchmjhaa.Pam
