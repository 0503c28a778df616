/- A part of the proof that stands in this folder: a small machine whose steps are shown to be the steps of the model, or walks of functions by it. No condition of its own. -/
import Derived.Test.YtihpfhdkjlphhaaGgMM
set_option linter.unusedVariables false
set_option linter.unusedSimpArgs false
namespace Go.Proofs.Ytihpfhdkjlphhaa.Pam
open Go
def ntR (both : Bool) : List Int → Nat := if both = true then ntT tabB else ntT tabO
def ndI (both : Bool) (c : List Int) : Int := (ntR both (pad3 c) : Int)
theorem okC_pad {c : List Int} (h : okC c = true) : pad3 c ∈ allT := by
  obtain ⟨⟨h1, h3⟩, h8, hs⟩ := okC_out h
  rw [mem_allT]
  have q := in8_get h8
  match c, h1, h3 with
  | [a], _, _ =>
    have h0 := q 0
    simp at h0 hs
    simp [pad3, inT]; omega
  | [a, b], _, _ =>
    have h0 := q 0
    have h1 := q 1
    simp at h0 h1 hs
    simp [pad3, inT]; omega
  | [a, b, d], _, _ =>
    have h0 := q 0
    have h1 := q 1
    have h2 := q 2
    simp at h0 h1 h2 hs
    simp [pad3, inT]; omega
theorem nt_bd (both : Bool) {t : List Int} (h : t ∈ allT) : ntR both t ≤ 9 := by
  cases both
  · have := ntO.top t h; simp only [ntR, Bool.false_eq_true, if_false]; omega
  · have := ntB.top t h; simp only [ntR, if_true]; omega
theorem eL_val {nt : List Int → Nat} : ∀ k, ∀ e ∈ eL nt k, 0 ≤ e.2 ∧ e.2 ≤ (k : Int)
  | 0, e, h => by
    simp only [eL, List.mem_map] at h
    obtain ⟨t, _, rfl⟩ := h
    simp
  | k + 1, e, h => by
    simp only [eL, List.mem_append, List.mem_map] at h
    rcases h with h | ⟨t, _, rfl⟩
    · have := eL_val k e h; omega
    · simp only; omega
theorem okE_nES (both : Bool) : okE (nES both) = true := by
  cases both
  · exact okE_ents (all3_eL _ _) fun e he => by have := eL_val 6 e he; omega
  · exact okE_ents (all3_eL _ _) fun e he => by have := eL_val 9 e he; omega
theorem ofE_nES (both : Bool) {c : List Int} (h : okC c = true) : ofE (nES both) c = ndI both c := by
  have hp := okC_pad h
  have hl := pad3_len (okC_out h).1.2
  cases both
  · simp only [nES, Bool.false_eq_true, if_false, ofE, look_ents hl (all3_eL _ _), lk_eL hp, if_pos (ntO.top _ hp), Option.map_some, ndI, ntR]
  · simp only [nES, if_true, ofE, look_ents hl (all3_eL _ _), lk_eL hp, if_pos (ntB.top _ hp), Option.map_some, ndI, ntR]
theorem tab_nd {c : List Int} (h : okC c = true) : (tabK (ntT tabB) c.length 9).getD (keyN c) 0 = ndI true c ∧ (tabK (ntT tabO) c.length 6).getD (keyN c) 0 = ndI false c := by
  have hp := okC_pad h
  obtain ⟨⟨h1, h3⟩, h8, hs⟩ := okC_out h
  rw [tabK_at rfl h3 h8 hs, tabK_at rfl h3 h8 hs, if_pos (ntB.top _ hp), if_pos (ntO.top _ hp)]
  exact ⟨rfl, rfl⟩
theorem ndI_bd (both : Bool) {c : List Int} (h : okC c = true) : 0 ≤ ndI both c ∧ ndI both c ≤ 9 := by
  have := nt_bd both (okC_pad h)
  simp only [ndI]; omega
theorem neederOf_both {Γ1 : Gam} {g : FuncId} (h : Γ1 g = c_bothWays) : c_neederOf Γ1 [.p (.fn g [] [])] [] = some (.ag [.p (.fn g [] []), .p (.mapv (nES true))], [], []) := by simp [c_neederOf, pure', h]
theorem neederOf_one {Γ1 : Gam} {g : FuncId} (h : Γ1 g = c_oneWay) : c_neederOf Γ1 [.p (.fn g [] [])] [] = some (.ag [.p (.fn g [] []), .p (.mapv (nES false))], [], []) := by simp [c_neederOf, pure', h, rules_apart]
theorem fr_okC {n : Nat} {m : Int} (hn : n ≤ 8) (hm : 0 ≤ m ∧ m ≤ 2) : okC (frL (n : Int) m) = true := by
  have hm' : m = 0 ∨ m = 1 ∨ m = 2 := by omega
  rcases hm' with rfl | rfl | rfl
  · simp [frL, okC, in8]; omega
  · simp [frL, okC, in8, List.replicate_succ]; omega
  · simp [frL, okC, in8, List.replicate_succ]; omega
theorem moF_congr {f g : Nat → Int} {q : Int} : ∀ {n : Nat}, (∀ k, k < n → f k = g k) → moF f q n = moF g q n
  | 0, _ => rfl
  | n + 1, h => by
    simp only [moF, h n (by omega)]
    rw [moF_congr fun k hk => h k (by omega)]
theorem moF_mono {g : Nat → Int} {q : Int} {n : Nat} (hn : g n ≤ q) : ∀ {N : Nat}, n < N → (∀ k, k + 1 < N → g k ≤ g (k + 1)) → (n + 1 = N ∨ q < g (n + 1)) → moF g q N = n
  | 0, h, _, _ => by omega
  | N + 1, h, hm, ho => by
    by_cases he : n = N
    · subst he; simp only [moF, if_pos hn]
    · have hlt : n < N := by omega
      have hq : q < g (n + 1) := by
        rcases ho with g1 | g1
        · omega
        · exact g1
      have hge : ∀ j, n + 1 + j ≤ N → q < g (n + 1 + j) := by
        intro j
        induction j with
        | zero => intro _; exact hq
        | succ j ih =>
          intro hj
          have h1 := ih (by omega)
          have h2 := hm (n + 1 + j) (by omega)
          have : g (n + 1 + j + 1) = g (n + 1 + (j + 1)) := rfl
          omega
      have hN : q < g N := by
        have := hge (N - (n + 1)) (by omega)
        have e : n + 1 + (N - (n + 1)) = N := by omega
        rw [e] at this; exact this
      simp only [moF, if_neg (show ¬ g N ≤ q by omega)]
      refine moF_mono hn hlt (fun k hk => hm k (by omega)) ?_
      by_cases e : n + 1 = N
      · exact .inl e
      · exact .inr hq
theorem taF_congr {f g : Nat → Int} {n : Nat} (h : ∀ k, k < n → f (k + 1) = g (k + 1)) : taF f n = taF g n := by
  simp only [taF]
  apply List.map_congr_left
  intro k hk
  exact h k (List.mem_range.1 hk)
def gF (both : Bool) (m : Int) (k : Nat) : Int := ndI both (frL k m)
theorem gF_mono (both : Bool) {m : Int} (hm : 0 ≤ m ∧ m ≤ 2) : ∀ k, k + 1 < 9 → gF both m k ≤ gF both m (k + 1) := by
  have hm' : m = 0 ∨ m = 1 ∨ m = 2 := by omega
  have h : ∀ b : Bool, ∀ m ∈ [(0 : Int), 1, 2], ((List.range 8).all fun k => decide (gF b m k ≤ gF b m (k + 1))) = true := by decide +kernel
  intro k hk
  have := List.all_eq_true.1 (h both m (by rcases hm' with rfl | rfl | rfl <;> simp)) k (List.mem_range.2 (by omega))
  simpa using this
theorem gF_1 (both : Bool) {m : Int} (hm : 0 ≤ m ∧ m ≤ 2) : gF both m 1 = 0 := by
  have hm' : m = 0 ∨ m = 1 ∨ m = 2 := by omega
  rcases hm' with rfl | rfl | rfl <;> cases both <;> rfl
def a_NeedOf (f_AreCounts : FuncId) (f_neederOf : FuncId) (f_bothWays : FuncId) (f_nOf : FuncId) : AFn := ⟨1, 
  .seq (.reg [⟨some 2, none, .d (.mv (.c (.int .i64 0)))⟩,
    ⟨some 3, none, .d (.mv (.c (.bool false)))⟩])
  (.seq (.seq (.reg [⟨some 4, none, .d (.mv (.t 0))⟩,
    ⟨some 5, none, .d (.call (.f f_AreCounts) [(.t 4)])⟩,
    ⟨some 6, none, .d (.not (.t 5))⟩])
  (.cond (.t 6) (.seq (.reg [⟨some 2, none, .d (.mv (.c (.int .i64 0)))⟩,
     ⟨some 3, none, .d (.mv (.c (.bool false)))⟩])
   (.ret)) (.skip)))
  (.seq (.reg [⟨some 7, none, .d (.call (.f f_neederOf) [(.f f_bothWays)])⟩,
    ⟨some 8, none, .d (.mv (.t 0))⟩,
    ⟨some 9, none, .d (.call (.f f_nOf) [(.t 7), (.t 8)])⟩,
    ⟨some 2, none, .d (.mv (.t 9))⟩,
    ⟨some 3, none, .d (.mv (.c (.bool true)))⟩])
  (.ret))), [.tmp 2, .tmp 3]⟩
def n_NeedOf : Nat → Option Ann := fun _ => none
abbrev k_NeedOf : List Nat := [0, 2, 3, 6]
abbrev o_NeedOf : List Nat := []
def c_NeedOf : Con := pure' fun
  | [.p (.sl 1 c_)] => if isI c_ = true ∧ ((ofI c_).length ≤ 1100000) then some (.tp [.p (.int .i64 (if okC (ofI c_) = true then ndI true (ofI c_) else 0)), .p (.bool (okC (ofI c_)))], []) else none
  | _ => none
theorem s_NeedOf {P : Program} (hm : P.follows .mixedOrders = true) {Γ : Gam} (hΓ : GS P Γ) {n : FuncId} {f_AreCounts : FuncId} {f_neederOf : FuncId} {f_bothWays : FuncId} {f_nOf : FuncId} (is : Is P n (a_NeedOf f_AreCounts f_neederOf f_bothWays f_nOf)) (h_AreCounts : Γ f_AreCounts = c_AreCounts) (h_nOf : Γ f_nOf = c_nOf) {Γ1 : Gam} (h_neederOf : Γ f_neederOf = c_neederOf Γ1) (h_bothWays : Γ1 f_bothWays = c_bothWays) : Says P n c_NeedOf := by
  refine Says.pure fun args r fs h => ?_
  split at h
  case h_2 => cases h
  rename_i c_
  split at h
  case isFalse => cases h
  rename_i hc
  obtain ⟨hc_, hc⟩ := hc
  obtain ⟨c, rfl⟩ := isI_out hc_
  simp only [ofI_ints, ofBo_bools, ofAs_asks, Option.some.injEq, Prod.mk.injEq] at h hc
  obtain ⟨rfl, rfl⟩ := h
  cases h1 : okC c with
  | false =>
    refine is.go hm hΓ k_NeedOf o_NeedOf (by simp [a_NeedOf]) ?_
    simp only [a_NeedOf, h_AreCounts, c_AreCounts, h_nOf, c_nOf, hc, h1, Bool.false_eq_true, List.zipIdx_cons, List.zipIdx_nil, ↓SP, SQ, SU, stepM, callC, argC, nmBy, stepD, stepW, fz, loadA, cellsA, binA, snap, thaw, fzAll, elemOf, partsA, buildA, putCells, ↓reduceIte, reduceCtorEq, okCell, Nat.reduceAdd, Nat.reduceEqDiff, Nat.reduceSub, Nat.reduceMul, Nat.reduceLeDiff, Nat.reduceLT, Nat.reduceBEq]
    exact finA_val (by simp [retA, rvA, mkE_cons, mk_nil, mkO_cons, mkO_nil, loadA, SV.tr, SV.trL, nmF, rn_nil, rn_cons1, rn_cons2, plainOb, SV.refsL, SV.refs, Ob.refs, X, F, List.range_succ, mkO, setO_mk]) (by simp [SV.tr, SV.trL])
  | true =>
    have hne := neederOf_both h_bothWays
    obtain ⟨⟨l1, l3⟩, h8, _⟩ := okC_out h1
    have hE := okE_nES true
    have hof := ofE_nES true h1
    refine is.go hm hΓ k_NeedOf o_NeedOf (by simp [a_NeedOf]) ?_
    simp only [a_NeedOf, h_AreCounts, c_AreCounts, h_nOf, c_nOf, hc, h1, h_neederOf, hne, l1, l3, hE, hof, isI_ints, ofI_ints, ints_len, List.zipIdx_cons, List.zipIdx_nil, ↓SP, SQ, SU, stepM, callC, argC, nmBy, stepD, stepW, fz, loadA, cellsA, binA, snap, thaw, fzAll, elemOf, partsA, buildA, putCells, ↓reduceIte, reduceCtorEq, okCell, Nat.reduceAdd, Nat.reduceEqDiff, Nat.reduceSub, Nat.reduceMul, Nat.reduceLeDiff, Nat.reduceLT, Nat.reduceBEq]
    exact finA_val (by simp [retA, rvA, mkE_cons, mk_nil, mkO_cons, mkO_nil, loadA, SV.tr, SV.trL, nmF, rn_nil, rn_cons1, rn_cons2, plainOb, SV.refsL, SV.refs, Ob.refs, X, F, List.range_succ, mkO, setO_mk]) (by simp [SV.tr, SV.trL])
def a_OneWayNeed (f_AreCounts : FuncId) (f_neederOf : FuncId) (f_oneWay : FuncId) (f_nOf : FuncId) : AFn := ⟨1, 
  .seq (.reg [⟨some 2, none, .d (.mv (.c (.int .i64 0)))⟩,
    ⟨some 3, none, .d (.mv (.c (.bool false)))⟩])
  (.seq (.seq (.reg [⟨some 4, none, .d (.mv (.t 0))⟩,
    ⟨some 5, none, .d (.call (.f f_AreCounts) [(.t 4)])⟩,
    ⟨some 6, none, .d (.not (.t 5))⟩])
  (.cond (.t 6) (.seq (.reg [⟨some 2, none, .d (.mv (.c (.int .i64 0)))⟩,
     ⟨some 3, none, .d (.mv (.c (.bool false)))⟩])
   (.ret)) (.skip)))
  (.seq (.reg [⟨some 7, none, .d (.call (.f f_neederOf) [(.f f_oneWay)])⟩,
    ⟨some 8, none, .d (.mv (.t 0))⟩,
    ⟨some 9, none, .d (.call (.f f_nOf) [(.t 7), (.t 8)])⟩,
    ⟨some 2, none, .d (.mv (.t 9))⟩,
    ⟨some 3, none, .d (.mv (.c (.bool true)))⟩])
  (.ret))), [.tmp 2, .tmp 3]⟩
def n_OneWayNeed : Nat → Option Ann := fun _ => none
abbrev k_OneWayNeed : List Nat := [0, 2, 3, 6]
abbrev o_OneWayNeed : List Nat := []
def a_s_OneWayNeed (f_l4Counts : FuncId) (f_l10Needs : FuncId) (f_l4Key : FuncId) : AFn := ⟨1, 
  .seq (.reg [⟨some 2, none, .d (.mv (.c (.int .i64 0)))⟩,
    ⟨some 3, none, .d (.mv (.c (.bool false)))⟩])
  (.seq (.seq (.reg [⟨some 4, none, .d (.mv (.t 0))⟩,
    ⟨some 5, none, .d (.call (.f f_l4Counts) [(.t 4)])⟩,
    ⟨some 6, none, .d (.not (.t 5))⟩])
  (.cond (.t 6) (.seq (.reg [⟨some 2, none, .d (.mv (.c (.int .i64 0)))⟩,
     ⟨some 3, none, .d (.mv (.c (.bool false)))⟩])
   (.ret)) (.skip)))
  (.seq (.reg [⟨some 7, none, .d (.mv (.t 0))⟩,
    ⟨some 8, none, .d (.len (.t 7))⟩,
    ⟨some 9, none, .d (.call (.f f_l10Needs) [(.t 8)])⟩,
    ⟨some 10, none, .d (.mv (.t 0))⟩,
    ⟨some 11, none, .d (.call (.f f_l4Key) [(.t 10)])⟩,
    ⟨some 12, none, .d (.ia 1 (.t 9) (.t 11))⟩,
    ⟨some 13, none, .d (.load false 1 (.t 12))⟩,
    ⟨some 2, none, .d (.mv (.t 13))⟩,
    ⟨some 3, none, .d (.mv (.c (.bool true)))⟩])
  (.ret))), [.tmp 2, .tmp 3]⟩
def n_s_OneWayNeed : Nat → Option Ann := fun _ => none
abbrev k_s_OneWayNeed : List Nat := [0, 2, 3, 6]
abbrev o_s_OneWayNeed : List Nat := []
def c_OneWayNeed : Con := pure' fun
  | [.p (.sl 1 c_)] => if isI c_ = true ∧ ((ofI c_).length ≤ 1100000) then some (.tp [.p (.int .i64 (if okC (ofI c_) = true then ndI false (ofI c_) else 0)), .p (.bool (okC (ofI c_)))], []) else none
  | _ => none
theorem s_OneWayNeed {P : Program} (hm : P.follows .mixedOrders = true) {Γ : Gam} (hΓ : GS P Γ) {n : FuncId} {f_AreCounts : FuncId} {f_neederOf : FuncId} {f_oneWay : FuncId} {f_nOf : FuncId} (is : Is P n (a_OneWayNeed f_AreCounts f_neederOf f_oneWay f_nOf)) (h_AreCounts : Γ f_AreCounts = c_AreCounts) (h_nOf : Γ f_nOf = c_nOf) {Γ1 : Gam} (h_neederOf : Γ f_neederOf = c_neederOf Γ1) (h_oneWay : Γ1 f_oneWay = c_oneWay) : Says P n c_OneWayNeed := by
  refine Says.pure fun args r fs h => ?_
  split at h
  case h_2 => cases h
  rename_i c_
  split at h
  case isFalse => cases h
  rename_i hc
  obtain ⟨hc_, hc⟩ := hc
  obtain ⟨c, rfl⟩ := isI_out hc_
  simp only [ofI_ints, ofBo_bools, ofAs_asks, Option.some.injEq, Prod.mk.injEq] at h hc
  obtain ⟨rfl, rfl⟩ := h
  cases h1 : okC c with
  | false =>
    refine is.go hm hΓ k_OneWayNeed o_OneWayNeed (by simp [a_OneWayNeed]) ?_
    simp only [a_OneWayNeed, h_AreCounts, c_AreCounts, h_nOf, c_nOf, hc, h1, Bool.false_eq_true, List.zipIdx_cons, List.zipIdx_nil, ↓SP, SQ, SU, stepM, callC, argC, nmBy, stepD, stepW, fz, loadA, cellsA, binA, snap, thaw, fzAll, elemOf, partsA, buildA, putCells, ↓reduceIte, reduceCtorEq, okCell, Nat.reduceAdd, Nat.reduceEqDiff, Nat.reduceSub, Nat.reduceMul, Nat.reduceLeDiff, Nat.reduceLT, Nat.reduceBEq]
    exact finA_val (by simp [retA, rvA, mkE_cons, mk_nil, mkO_cons, mkO_nil, loadA, SV.tr, SV.trL, nmF, rn_nil, rn_cons1, rn_cons2, plainOb, SV.refsL, SV.refs, Ob.refs, X, F, List.range_succ, mkO, setO_mk]) (by simp [SV.tr, SV.trL])
  | true =>
    have hne := neederOf_one h_oneWay
    obtain ⟨⟨l1, l3⟩, h8, _⟩ := okC_out h1
    have hE := okE_nES false
    have hof := ofE_nES false h1
    refine is.go hm hΓ k_OneWayNeed o_OneWayNeed (by simp [a_OneWayNeed]) ?_
    simp only [a_OneWayNeed, h_AreCounts, c_AreCounts, h_nOf, c_nOf, hc, h1, h_neederOf, hne, l1, l3, hE, hof, isI_ints, ofI_ints, ints_len, List.zipIdx_cons, List.zipIdx_nil, ↓SP, SQ, SU, stepM, callC, argC, nmBy, stepD, stepW, fz, loadA, cellsA, binA, snap, thaw, fzAll, elemOf, partsA, buildA, putCells, ↓reduceIte, reduceCtorEq, okCell, Nat.reduceAdd, Nat.reduceEqDiff, Nat.reduceSub, Nat.reduceMul, Nat.reduceLeDiff, Nat.reduceLT, Nat.reduceBEq]
    exact finA_val (by simp [retA, rvA, mkE_cons, mk_nil, mkO_cons, mkO_nil, loadA, SV.tr, SV.trL, nmF, rn_nil, rn_cons1, rn_cons2, plainOb, SV.refsL, SV.refs, Ob.refs, X, F, List.range_succ, mkO, setO_mk]) (by simp [SV.tr, SV.trL])
theorem s_s_OneWayNeed {P : Program} (hm : P.follows .mixedOrders = true) {Γ : Gam} (hΓ : GS P Γ) {n : FuncId} {f_l4Counts : FuncId} {f_l10Needs : FuncId} {f_l4Key : FuncId} (is : Is P n (a_s_OneWayNeed f_l4Counts f_l10Needs f_l4Key)) (h_l4Counts : Γ f_l4Counts = c_AreCounts) (h_l10Needs : Γ f_l10Needs = c_l10Needs) (h_l4Key : Γ f_l4Key = c_l4Key)  : Says P n c_OneWayNeed := by
  refine Says.pure fun args r fs h => ?_
  split at h
  case h_2 => cases h
  rename_i c_
  split at h
  case isFalse => cases h
  rename_i hc
  obtain ⟨hc_, hc⟩ := hc
  obtain ⟨c, rfl⟩ := isI_out hc_
  simp only [ofI_ints, ofBo_bools, ofAs_asks, Option.some.injEq, Prod.mk.injEq] at h hc
  obtain ⟨rfl, rfl⟩ := h
  cases h1 : okC c with
  | false =>
    refine is.go hm hΓ k_s_OneWayNeed o_s_OneWayNeed (by simp [a_s_OneWayNeed]) ?_
    simp only [a_s_OneWayNeed, h_l4Counts, c_AreCounts, h_l10Needs, c_l10Needs, h_l4Key, c_l4Key, hc, h1, Bool.false_eq_true, List.zipIdx_cons, List.zipIdx_nil, ↓SP, SQ, SU, stepM, callC, argC, nmBy, stepD, stepW, fz, loadA, cellsA, binA, snap, thaw, fzAll, elemOf, partsA, buildA, putCells, ↓reduceIte, reduceCtorEq, okCell, Nat.reduceAdd, Nat.reduceEqDiff, Nat.reduceSub, Nat.reduceMul, Nat.reduceLeDiff, Nat.reduceLT, Nat.reduceBEq]
    exact finA_val (by simp [retA, rvA, mkE_cons, mk_nil, mkO_cons, mkO_nil, loadA, SV.tr, SV.trL, nmF, rn_nil, rn_cons1, rn_cons2, plainOb, SV.refsL, SV.refs, Ob.refs, X, F, List.range_succ, mkO, setO_mk]) (by simp [SV.tr, SV.trL])
  | true =>
    obtain ⟨⟨l1, l3⟩, h8, _⟩ := okC_out h1
    have l1' : (1 : Int) ≤ c.length := by omega
    have l3' : (c.length : Int) ≤ 3 := by omega
    obtain ⟨k0, k1⟩ := keyN_bd (p := c.length) rfl h8
    have hkk : (keyL c).toNat = keyN c := rfl
    have hg := ints_get (l := tabK (ntT tabO) c.length 6) (i := keyN c) (by rw [tabK_len]; exact k1)
    have htn := (tab_nd h1).2
    rw [htn] at hg
    refine is.go hm hΓ k_s_OneWayNeed o_s_OneWayNeed (by simp [a_s_OneWayNeed]) ?_
    simp only [a_s_OneWayNeed, h_l4Counts, c_AreCounts, h_l10Needs, c_l10Needs, h_l4Key, c_l4Key, hc, h1, l1', l3', l3, h8, k0, hkk, hg, Int.toNat_natCast, isI_ints, ofI_ints, ints_len, List.zipIdx_cons, List.zipIdx_nil, ↓SP, SQ, SU, stepM, callC, argC, nmBy, stepD, stepW, fz, loadA, cellsA, binA, snap, thaw, fzAll, elemOf, partsA, buildA, putCells, ↓reduceIte, reduceCtorEq, okCell, Nat.reduceAdd, Nat.reduceEqDiff, Nat.reduceSub, Nat.reduceMul, Nat.reduceLeDiff, Nat.reduceLT, Nat.reduceBEq]
    exact finA_val (by simp [retA, rvA, mkE_cons, mk_nil, mkO_cons, mkO_nil, loadA, SV.tr, SV.trL, nmF, rn_nil, rn_cons1, rn_cons2, plainOb, SV.refsL, SV.refs, Ob.refs, X, F, List.range_succ, mkO, setO_mk]) (by simp [SV.tr, SV.trL])
def a_OneWayMost (f_in : FuncId) (f_isMost : FuncId) (f_neederOf : FuncId) (f_oneWay : FuncId) (f_nMost : FuncId) : AFn := ⟨2, 
  .seq (.reg [⟨some 4, none, .d (.mv (.c (.int .i64 0)))⟩,
    ⟨some 5, none, .d (.mv (.c (.bool false)))⟩])
  (.seq (.seq (.reg [⟨some 6, none, .d (.mv (.t 0))⟩,
    ⟨some 7, none, .d (.call (.f f_in) [(.t 6), (.c (.int .i64 0)), (.c (.int .i64 20))])⟩,
    ⟨some 8, none, .d (.not (.t 7))⟩,
    ⟨some 9, none, .d (.mv (.t 8))⟩,
    ⟨some 10, some (9, false), .d (.mv (.t 1))⟩,
    ⟨some 11, some (9, false), .d (.call (.f f_isMost) [(.t 10)])⟩,
    ⟨some 12, some (9, false), .d (.not (.t 11))⟩,
    ⟨some 13, none, .d (.pick (.t 9) (.c (.bool true)) (.t 12))⟩])
  (.cond (.t 13) (.seq (.reg [⟨some 4, none, .d (.mv (.c (.int .i64 0)))⟩,
     ⟨some 5, none, .d (.mv (.c (.bool false)))⟩])
   (.ret)) (.skip)))
  (.seq (.reg [⟨some 14, none, .d (.call (.f f_neederOf) [(.f f_oneWay)])⟩,
    ⟨some 15, none, .d (.mv (.t 0))⟩,
    ⟨some 16, none, .d (.mv (.t 1))⟩,
    ⟨some 17, none, .d (.call (.f f_nMost) [(.t 14), (.t 15), (.t 16)])⟩,
    ⟨some 4, none, .d (.mv (.t 17))⟩,
    ⟨some 5, none, .d (.mv (.c (.bool true)))⟩])
  (.ret))), [.tmp 4, .tmp 5]⟩
def n_OneWayMost : Nat → Option Ann := fun _ => none
abbrev k_OneWayMost : List Nat := [0, 1, 4, 5, 13]
abbrev o_OneWayMost : List Nat := []
def a_s_OneWayMost (f_l1In : FuncId) (f_l10Needs : FuncId) (f_countsOf : FuncId) (f_l4Key : FuncId) : AFn := ⟨2, 
  .seq (.reg [⟨some 4, none, .d (.mv (.c (.int .i64 0)))⟩,
    ⟨some 5, none, .d (.mv (.c (.bool false)))⟩])
  (.seq (.seq (.reg [⟨some 8, none, .d (.mv (.t 0))⟩,
    ⟨some 9, none, .d (.call (.f f_l1In) [(.t 8), (.c (.int .i64 0)), (.c (.int .i64 20))])⟩,
    ⟨some 10, none, .d (.not (.t 9))⟩,
    ⟨some 11, none, .d (.mv (.t 10))⟩,
    ⟨some 12, some (11, false), .d (.mv (.t 1))⟩,
    ⟨some 13, some (11, false), .d (.call (.f f_l1In) [(.t 12), (.c (.int .i64 0)), (.c (.int .i64 2))])⟩,
    ⟨some 14, some (11, false), .d (.not (.t 13))⟩,
    ⟨some 15, none, .d (.pick (.t 11) (.c (.bool true)) (.t 14))⟩])
  (.cond (.t 15) (.seq (.reg [⟨some 4, none, .d (.mv (.c (.int .i64 0)))⟩,
     ⟨some 5, none, .d (.mv (.c (.bool false)))⟩])
   (.ret)) (.skip)))
  (.seq (.reg [⟨some 16, none, .d (.mv (.t 1))⟩,
    ⟨some 17, none, .d (.bin .arith .add (.t 16) (.c (.int .i64 1)))⟩,
    ⟨some 18, none, .d (.call (.f f_l10Needs) [(.t 17)])⟩,
    ⟨some 6, none, .d (.mv (.t 18))⟩,
    ⟨some 7, none, .d (.mv (.c (.int .i64 1)))⟩])
  (.seq (.block 0 (.loop (.seq (.seq (.reg [⟨some 19, none, .d (.mv (.t 7))⟩,
      ⟨some 20, none, .d (.bin .arith .lss (.t 19) (.c (.int .i64 8)))⟩,
      ⟨some 21, none, .d (.mv (.t 20))⟩,
      ⟨some 22, some (21, true), .d (.mv (.t 6))⟩,
      ⟨some 23, some (21, true), .d (.mv (.t 7))⟩,
      ⟨some 24, some (21, true), .d (.bin .arith .add (.t 23) (.c (.int .i64 1)))⟩,
      ⟨some 25, some (21, true), .d (.mv (.t 1))⟩,
      ⟨some 26, some (21, true), .d (.call (.f f_countsOf) [(.t 24), (.t 25)])⟩,
      ⟨some 27, some (21, true), .d (.call (.f f_l4Key) [(.t 26)])⟩,
      ⟨some 28, some (21, true), .d (.ia 1 (.t 22) (.t 27))⟩,
      ⟨some 29, some (21, true), .d (.load false 1 (.t 28))⟩,
      ⟨some 30, some (21, true), .d (.mv (.t 0))⟩,
      ⟨some 31, some (21, true), .d (.bin .arith .leq (.t 29) (.t 30))⟩,
      ⟨some 32, none, .d (.pick (.t 21) (.t 31) (.c (.bool false)))⟩])
    (.cond (.t 32) (.skip) (.exit 0)))
    (.block 1 (.reg [⟨some 33, none, .d (.mv (.t 7))⟩,
       ⟨some 34, none, .d (.bin .arith .add (.t 33) (.c (.int .i64 1)))⟩,
       ⟨some 7, none, .d (.mv (.t 34))⟩])))))
  (.seq (.reg [⟨some 35, none, .d (.mv (.t 7))⟩,
    ⟨some 4, none, .d (.mv (.t 35))⟩,
    ⟨some 5, none, .d (.mv (.c (.bool true)))⟩])
  (.ret))))), [.tmp 4, .tmp 5]⟩
def n_s_OneWayMost : Nat → Option Ann := fun _ => none
abbrev k_s_OneWayMost : List Nat := [0, 1, 4, 5, 6, 7, 15, 32]
abbrev o_s_OneWayMost : List Nat := []
def c_OneWayMost : Con := pure' fun
  | [.p (.int .i64 q), .p (.int .i64 m)] => if (True) then some (.tp [.p (.int .i64 (if (decide (0 ≤ q) && decide (q ≤ 20) && (decide (0 ≤ m) && decide (m ≤ 2))) = true then moF (gF false m) q 9 else 0)), .p (.bool (decide (0 ≤ q) && decide (q ≤ 20) && (decide (0 ≤ m) && decide (m ≤ 2))))], []) else none
  | _ => none
theorem s_OneWayMost {P : Program} (hm : P.follows .mixedOrders = true) {Γ : Gam} (hΓ : GS P Γ) {n : FuncId} {f_in : FuncId} {f_isMost : FuncId} {f_neederOf : FuncId} {f_oneWay : FuncId} {f_nMost : FuncId} (is : Is P n (a_OneWayMost f_in f_isMost f_neederOf f_oneWay f_nMost)) (h_in : Γ f_in = c_in) (h_isMost : Γ f_isMost = c_isMost) (h_nMost : Γ f_nMost = c_nMost) {Γ1 : Gam} (h_neederOf : Γ f_neederOf = c_neederOf Γ1) (h_oneWay : Γ1 f_oneWay = c_oneWay) : Says P n c_OneWayMost := by
  refine Says.pure fun args r fs h => ?_
  split at h
  case h_2 => cases h
  rename_i q m
  split at h
  case isFalse => cases h
  rename_i hc
  simp only [ofI_ints, ofBo_bools, ofAs_asks, Option.some.injEq, Prod.mk.injEq] at h hc
  obtain ⟨rfl, rfl⟩ := h
  cases h1 : (decide (0 ≤ q) && decide (q ≤ 20)) with
  | false =>
    refine is.go hm hΓ k_OneWayMost o_OneWayMost (by simp [a_OneWayMost]) ?_
    simp only [a_OneWayMost, h_in, c_in, h_isMost, c_isMost, h_nMost, c_nMost, h1, Bool.false_and, Bool.false_eq_true, List.zipIdx_cons, List.zipIdx_nil, ↓SP, SQ, SU, stepM, callC, argC, nmBy, stepD, stepW, fz, loadA, cellsA, binA, snap, thaw, fzAll, elemOf, partsA, buildA, putCells, ↓reduceIte, reduceCtorEq, okCell, Nat.reduceAdd, Nat.reduceEqDiff, Nat.reduceSub, Nat.reduceMul, Nat.reduceLeDiff, Nat.reduceLT, Nat.reduceBEq]
    exact finA_val (by simp [retA, rvA, mkE_cons, mk_nil, mkO_cons, mkO_nil, loadA, SV.tr, SV.trL, nmF, rn_nil, rn_cons1, rn_cons2, plainOb, SV.refsL, SV.refs, Ob.refs, X, F, List.range_succ, mkO, setO_mk]) (by simp [SV.tr, SV.trL])
  | true =>
    cases h2 : (decide (0 ≤ m) && decide (m ≤ 2)) with
    | false =>
      refine is.go hm hΓ k_OneWayMost o_OneWayMost (by simp [a_OneWayMost]) ?_
      simp only [a_OneWayMost, h_in, c_in, h_isMost, c_isMost, h_nMost, c_nMost, h1, h2, Bool.and_false, Bool.false_eq_true, List.zipIdx_cons, List.zipIdx_nil, ↓SP, SQ, SU, stepM, callC, argC, nmBy, stepD, stepW, fz, loadA, cellsA, binA, snap, thaw, fzAll, elemOf, partsA, buildA, putCells, ↓reduceIte, reduceCtorEq, okCell, Nat.reduceAdd, Nat.reduceEqDiff, Nat.reduceSub, Nat.reduceMul, Nat.reduceLeDiff, Nat.reduceLT, Nat.reduceBEq]
      exact finA_val (by simp [retA, rvA, mkE_cons, mk_nil, mkO_cons, mkO_nil, loadA, SV.tr, SV.trL, nmF, rn_nil, rn_cons1, rn_cons2, plainOb, SV.refsL, SV.refs, Ob.refs, X, F, List.range_succ, mkO, setO_mk]) (by simp [SV.tr, SV.trL])
    | true =>
      have hq2 : 0 ≤ m ∧ m ≤ 2 := by simpa using h2
      have hne := neederOf_one h_oneWay
      have hE := okE_nES false
      have hmo : moF (fun k => ofE (nES false) (frL (k : Nat) m)) q 9 = moF (gF false m) q 9 := moF_congr fun k hk => ofE_nES false (fr_okC (by omega) hq2)
      refine is.go hm hΓ k_OneWayMost o_OneWayMost (by simp [a_OneWayMost]) ?_
      simp only [a_OneWayMost, h_in, c_in, h_isMost, c_isMost, h_nMost, c_nMost, h1, h2, hq2, h_neederOf, hne, hE, hmo, Bool.and_self, List.zipIdx_cons, List.zipIdx_nil, ↓SP, SQ, SU, stepM, callC, argC, nmBy, stepD, stepW, fz, loadA, cellsA, binA, snap, thaw, fzAll, elemOf, partsA, buildA, putCells, ↓reduceIte, reduceCtorEq, okCell, Nat.reduceAdd, Nat.reduceEqDiff, Nat.reduceSub, Nat.reduceMul, Nat.reduceLeDiff, Nat.reduceLT, Nat.reduceBEq]
      exact finA_val (by simp [retA, rvA, mkE_cons, mk_nil, mkO_cons, mkO_nil, loadA, SV.tr, SV.trL, nmF, rn_nil, rn_cons1, rn_cons2, plainOb, SV.refsL, SV.refs, Ob.refs, X, F, List.range_succ, mkO, setO_mk]) (by simp [SV.tr, SV.trL])
theorem s_s_OneWayMost {P : Program} (hm : P.follows .mixedOrders = true) {Γ : Gam} (hΓ : GS P Γ) {n : FuncId} {f_l1In : FuncId} {f_l10Needs : FuncId} {f_countsOf : FuncId} {f_l4Key : FuncId} (is : Is P n (a_s_OneWayMost f_l1In f_l10Needs f_countsOf f_l4Key)) (h_l1In : Γ f_l1In = c_in) (h_l10Needs : Γ f_l10Needs = c_l10Needs) (h_countsOf : Γ f_countsOf = c_countsOf) (h_l4Key : Γ f_l4Key = c_l4Key)  : Says P n c_OneWayMost := by
  refine Says.pure fun args r fs h => ?_
  split at h
  case h_2 => cases h
  rename_i q m
  split at h
  case isFalse => cases h
  rename_i hc
  simp only [ofI_ints, ofBo_bools, ofAs_asks, Option.some.injEq, Prod.mk.injEq] at h hc
  obtain ⟨rfl, rfl⟩ := h
  cases h1 : (decide (0 ≤ q) && decide (q ≤ 20)) with
  | false =>
    refine is.go hm hΓ k_s_OneWayMost o_s_OneWayMost (by simp [a_s_OneWayMost]) ?_
    simp only [a_s_OneWayMost, h_l1In, c_in, h_l10Needs, c_l10Needs, h_countsOf, c_countsOf, h_l4Key, c_l4Key, h1, Bool.false_and, Bool.false_eq_true, List.zipIdx_cons, List.zipIdx_nil, ↓SP, SQ, SU, stepM, callC, argC, nmBy, stepD, stepW, fz, loadA, cellsA, binA, snap, thaw, fzAll, elemOf, partsA, buildA, putCells, ↓reduceIte, reduceCtorEq, okCell, Nat.reduceAdd, Nat.reduceEqDiff, Nat.reduceSub, Nat.reduceMul, Nat.reduceLeDiff, Nat.reduceLT, Nat.reduceBEq]
    exact finA_val (by simp [retA, rvA, mkE_cons, mk_nil, mkO_cons, mkO_nil, loadA, SV.tr, SV.trL, nmF, rn_nil, rn_cons1, rn_cons2, plainOb, SV.refsL, SV.refs, Ob.refs, X, F, List.range_succ, mkO, setO_mk]) (by simp [SV.tr, SV.trL])
  | true =>
    cases h2 : (decide (0 ≤ m) && decide (m ≤ 2)) with
    | false =>
      refine is.go hm hΓ k_s_OneWayMost o_s_OneWayMost (by simp [a_s_OneWayMost]) ?_
      simp only [a_s_OneWayMost, h_l1In, c_in, h_l10Needs, c_l10Needs, h_countsOf, c_countsOf, h_l4Key, c_l4Key, h1, h2, Bool.and_false, Bool.false_eq_true, List.zipIdx_cons, List.zipIdx_nil, ↓SP, SQ, SU, stepM, callC, argC, nmBy, stepD, stepW, fz, loadA, cellsA, binA, snap, thaw, fzAll, elemOf, partsA, buildA, putCells, ↓reduceIte, reduceCtorEq, okCell, Nat.reduceAdd, Nat.reduceEqDiff, Nat.reduceSub, Nat.reduceMul, Nat.reduceLeDiff, Nat.reduceLT, Nat.reduceBEq]
      exact finA_val (by simp [retA, rvA, mkE_cons, mk_nil, mkO_cons, mkO_nil, loadA, SV.tr, SV.trL, nmF, rn_nil, rn_cons1, rn_cons2, plainOb, SV.refsL, SV.refs, Ob.refs, X, F, List.range_succ, mkO, setO_mk]) (by simp [SV.tr, SV.trL])
    | true =>
      have hq2 : 0 ≤ m ∧ m ≤ 2 := by simpa using h2
      have hq0 : 0 ≤ q ∧ q ≤ 20 := by simpa using h1
      obtain ⟨mm, rfl⟩ : ∃ j : Nat, m = j := ⟨m.toNat, by omega⟩
      have hwm := wrap_one (i := mm) (by omega)
      have m1 : (1 : Int) ≤ ((mm + 1 : Nat) : Int) := by omega
      have m3 : ((mm + 1 : Nat) : Int) ≤ 3 := by omega
      refine is.go hm hΓ k_s_OneWayMost o_s_OneWayMost (by simp [a_s_OneWayMost]) ?_
      simp only [a_s_OneWayMost, h_l1In, c_in, h_l10Needs, c_l10Needs, h_countsOf, c_countsOf, h_l4Key, c_l4Key, h1, h2, hq2.1, hq2.2, hwm, m1, m3, Int.toNat_natCast, List.zipIdx_cons, List.zipIdx_nil, ↓SP, SQ, SU, stepM, callC, argC, nmBy, stepD, stepW, fz, loadA, cellsA, binA, snap, thaw, fzAll, elemOf, partsA, buildA, putCells, ↓reduceIte, reduceCtorEq, okCell, Nat.reduceAdd, Nat.reduceEqDiff, Nat.reduceSub, Nat.reduceMul, Nat.reduceLeDiff, Nat.reduceLT, Nat.reduceBEq]
      refine loop_at (fun s : Nat × SV × SV => mkEnv [(0, si q), (1, si mm), (4, si 0), (5, sb false), (6, .p (.sl 1 (ints (tabK (ntT tabO) (mm + 1) 6)))), (7, si ((s.1 + 1 : Nat) : Int)), (15, sb false), (32, s.2.1)]) (fun s => mkO []) (fun s => s.1 ≤ 7 ∧ gF false mm (s.1 + 1) ≤ q) (fun s => 7 - s.1) (0, .junk, .junk) (by refine ⟨by simp only; omega, ?_⟩; rw [gF_1 false hq2]; exact hq0.1) rfl rfl ?_
      rintro ⟨n, c1, c2⟩ ⟨hn, hgn⟩ R0 hR hN
      simp only at hn hgn
      by_cases h : n < 7
      · have h3 : ((n + 1 : Nat) : Int) < 8 := by omega
        have hw := wrap_one (i := n + 1) (by omega)
        have hfo := fr_okC (n := n + 1 + 1) (m := mm) (by omega) hq2
        obtain ⟨⟨f1, f3⟩, f8, _⟩ := okC_out hfo
        have hfl : (frL ((n + 1 + 1 : Nat) : Int) mm).length = mm + 1 := by simp [frL]
        obtain ⟨k0, k1⟩ := keyN_bd (p := mm + 1) hfl f8
        have hkk : (keyL (frL ((n + 1 + 1 : Nat) : Int) mm)).toNat = keyN (frL ((n + 1 + 1 : Nat) : Int) mm) := rfl
        have hg := ints_get (l := tabK (ntT tabO) (mm + 1) 6) (i := keyN (frL ((n + 1 + 1 : Nat) : Int) mm)) (by rw [tabK_len]; exact k1)
        have htn := (tab_nd hfo).2
        rw [hfl] at htn
        have htn2 : (tabK (ntT tabO) (mm + 1) 6).getD (keyN (frL ((n + 1 + 1 : Nat) : Int) mm)) 0 = gF false mm (n + 1 + 1) := htn
        rw [htn2] at hg
        by_cases hq : gF false mm (n + 1 + 1) ≤ q
        · simp only [h3, hw, hq2, f3, f8, k0, hkk, hg, hq, h_countsOf, c_countsOf, h_l4Key, c_l4Key, isI_ints, ofI_ints, ↓SP, SQ, SU, stepM, callC, argC, nmBy, stepD, stepW, fz, loadA, cellsA, binA, snap, thaw, fzAll, elemOf, partsA, buildA, putCells, ↓reduceIte, reduceCtorEq, okCell, Nat.reduceAdd, Nat.reduceEqDiff, Nat.reduceSub, Nat.reduceMul, Nat.reduceLeDiff, Nat.reduceLT, Nat.reduceBEq]
          exact hN (n + 1, _, .junk) _ _ ⟨by simp only; omega, hq⟩ (by simp only; omega) rfl rfl
        · have hmo : moF (gF false mm) q 9 = ((n + 1 : Nat) : Int) := moF_mono hgn (by omega) (gF_mono false hq2) (.inr (by omega))
          simp only [h3, hw, hq2, f3, f8, k0, hkk, hg, hq, h_countsOf, c_countsOf, h_l4Key, c_l4Key, isI_ints, ofI_ints, ↓SP, SQ, SU, stepM, callC, argC, nmBy, stepD, stepW, fz, loadA, cellsA, binA, snap, thaw, fzAll, elemOf, partsA, buildA, putCells, ↓reduceIte, reduceCtorEq, okCell, Nat.reduceAdd, Nat.reduceEqDiff, Nat.reduceSub, Nat.reduceMul, Nat.reduceLeDiff, Nat.reduceLT, Nat.reduceBEq]
          refine hR _ _ _ (by intro h; cases h) ?_
          simp only [↓SP, SQ, SU, stepM, callC, argC, nmBy, stepD, stepW, fz, loadA, cellsA, binA, snap, thaw, fzAll, elemOf, partsA, buildA, putCells, ↓reduceIte, reduceCtorEq, okCell, Nat.reduceAdd, Nat.reduceEqDiff, Nat.reduceSub, Nat.reduceMul, Nat.reduceLeDiff, Nat.reduceLT, Nat.reduceBEq]
          exact finA_val (by simp [hmo, retA, rvA, mkE_cons, mk_nil, mkO_cons, mkO_nil, loadA, SV.tr, SV.trL, nmF, rn_nil, rn_cons1, rn_cons2, plainOb, SV.refsL, SV.refs, Ob.refs, X, F, List.range_succ, mkO, setO_mk]) (by simp [SV.tr, SV.trL])
      · have he : n = 7 := by omega
        subst he
        have h3 : ¬ ((7 + 1 : Nat) : Int) < 8 := by omega
        have hmo : moF (gF false mm) q 9 = ((7 + 1 : Nat) : Int) := moF_mono hgn (by omega) (gF_mono false hq2) (.inl rfl)
        simp only [h3, ↓SP, SQ, SU, stepM, callC, argC, nmBy, stepD, stepW, fz, loadA, cellsA, binA, snap, thaw, fzAll, elemOf, partsA, buildA, putCells, ↓reduceIte, reduceCtorEq, okCell, Nat.reduceAdd, Nat.reduceEqDiff, Nat.reduceSub, Nat.reduceMul, Nat.reduceLeDiff, Nat.reduceLT, Nat.reduceBEq]
        refine hR _ _ _ (by intro h; cases h) ?_
        simp only [↓SP, SQ, SU, stepM, callC, argC, nmBy, stepD, stepW, fz, loadA, cellsA, binA, snap, thaw, fzAll, elemOf, partsA, buildA, putCells, ↓reduceIte, reduceCtorEq, okCell, Nat.reduceAdd, Nat.reduceEqDiff, Nat.reduceSub, Nat.reduceMul, Nat.reduceLeDiff, Nat.reduceLT, Nat.reduceBEq]
        exact finA_val (by simp [hmo, retA, rvA, mkE_cons, mk_nil, mkO_cons, mkO_nil, loadA, SV.tr, SV.trL, nmF, rn_nil, rn_cons1, rn_cons2, plainOb, SV.refsL, SV.refs, Ob.refs, X, F, List.range_succ, mkO, setO_mk]) (by simp [SV.tr, SV.trL])
def a_OneWayTable (f_isMost : FuncId) (f_neederOf : FuncId) (f_oneWay : FuncId) (f_nTable : FuncId) : AFn := ⟨1, 
  .seq (.reg [⟨some 2, none, .d (.mv (.c (.nilsl)))⟩,
    ⟨some 3, none, .d (.mv (.c (.bool false)))⟩])
  (.seq (.seq (.reg [⟨some 4, none, .d (.mv (.t 0))⟩,
    ⟨some 5, none, .d (.call (.f f_isMost) [(.t 4)])⟩,
    ⟨some 6, none, .d (.not (.t 5))⟩])
  (.cond (.t 6) (.seq (.reg [⟨some 2, none, .d (.mv (.c (.nilsl)))⟩,
     ⟨some 3, none, .d (.mv (.c (.bool false)))⟩])
   (.ret)) (.skip)))
  (.seq (.reg [⟨some 7, none, .d (.call (.f f_neederOf) [(.f f_oneWay)])⟩,
    ⟨some 8, none, .d (.mv (.t 0))⟩,
    ⟨some 9, none, .w (.callL (.f f_nTable) [(.t 7), (.t 8)] [] 1 false)⟩,
    ⟨some 2, none, .d (.mv (.t 9))⟩,
    ⟨some 3, none, .d (.mv (.c (.bool true)))⟩])
  (.ret))), [.tmp 2, .tmp 3]⟩
def n_OneWayTable : Nat → Option Ann := fun d => if d = 9 then some ⟨[], 1, false⟩ else none
abbrev k_OneWayTable : List Nat := [0, 2, 3, 6]
abbrev o_OneWayTable : List Nat := [9]
def a_s_OneWayTable (f_l1In : FuncId) (f_l10Needs : FuncId) (f_countsOf : FuncId) (f_l4Key : FuncId) : AFn := ⟨1, 
  .seq (.reg [⟨some 2, none, .d (.mv (.c (.nilsl)))⟩,
    ⟨some 3, none, .d (.mv (.c (.bool false)))⟩])
  (.seq (.reg [⟨some 7, none, .w (.bslice 1 [] [])⟩,
    ⟨some 4, none, .d (.mv (.t 7))⟩])
  (.seq (.seq (.reg [⟨some 8, none, .d (.mv (.t 0))⟩,
    ⟨some 9, none, .d (.call (.f f_l1In) [(.t 8), (.c (.int .i64 0)), (.c (.int .i64 2))])⟩,
    ⟨some 10, none, .d (.not (.t 9))⟩])
  (.cond (.t 10) (.seq (.reg [⟨some 11, none, .d (.mv (.t 4))⟩,
     ⟨some 2, none, .d (.mv (.t 11))⟩,
     ⟨some 3, none, .d (.mv (.c (.bool false)))⟩])
   (.ret)) (.skip)))
  (.seq (.reg [⟨some 12, none, .d (.mv (.t 0))⟩,
    ⟨some 13, none, .d (.bin .arith .add (.t 12) (.c (.int .i64 1)))⟩,
    ⟨some 14, none, .d (.call (.f f_l10Needs) [(.t 13)])⟩,
    ⟨some 5, none, .d (.mv (.t 14))⟩])
  (.seq (.seq (.reg [⟨some 6, none, .d (.mv (.c (.int .i64 1)))⟩])
  (.block 0 (.loop (.seq (.seq (.reg [⟨some 15, none, .d (.mv (.t 6))⟩,
      ⟨some 16, none, .d (.bin .arith .leq (.t 15) (.c (.int .i64 8)))⟩])
    (.cond (.t 16) (.skip) (.exit 0)))
    (.seq (.block 1 (.reg [⟨some 19, none, .d (.mv (.t 4))⟩,
       ⟨some 20, none, .d (.mv (.t 5))⟩,
       ⟨some 21, none, .d (.mv (.t 6))⟩,
       ⟨some 22, none, .d (.mv (.t 0))⟩,
       ⟨some 23, none, .d (.call (.f f_countsOf) [(.t 21), (.t 22)])⟩,
       ⟨some 24, none, .d (.call (.f f_l4Key) [(.t 23)])⟩,
       ⟨some 25, none, .d (.ia 1 (.t 20) (.t 24))⟩,
       ⟨some 26, none, .d (.load false 1 (.t 25))⟩,
       ⟨some 27, none, .w (.bslice 1 [.int .i64 0] [(0, (.t 26))])⟩,
       ⟨some 28, none, .w (.append 1 (.t 19) (.t 27))⟩,
       ⟨some 4, none, .d (.mv (.t 28))⟩]))
    (.reg [⟨some 17, none, .d (.mv (.t 6))⟩,
      ⟨some 18, none, .d (.bin .arith .add (.t 17) (.c (.int .i64 1)))⟩,
      ⟨some 6, none, .d (.mv (.t 18))⟩]))))))
  (.seq (.reg [⟨some 29, none, .d (.mv (.t 4))⟩,
    ⟨some 2, none, .d (.mv (.t 29))⟩,
    ⟨some 3, none, .d (.mv (.c (.bool true)))⟩])
  (.ret)))))), [.tmp 2, .tmp 3]⟩
def n_s_OneWayTable : Nat → Option Ann := fun _ => none
abbrev k_s_OneWayTable : List Nat := [0, 2, 3, 4, 5, 6, 10, 16]
abbrev o_s_OneWayTable : List Nat := [7, 27, 28]
def c_OneWayTable : Con := pure' fun
  | [.p (.int .i64 m)] => if (True) then some (if (decide (0 ≤ m) && decide (m ≤ 2)) = true then .tp [.ar 2000000, .p (.bool true)] else .tp [.p .nilsl, .p (.bool false)], if (decide (0 ≤ m) && decide (m ≤ 2)) = true then [.arr 1 (ints (taF (gF false m) 8))] else []) else none
  | _ => none
theorem s_OneWayTable {P : Program} (hm : P.follows .mixedOrders = true) {Γ : Gam} (hΓ : GS P Γ) {n : FuncId} {f_isMost : FuncId} {f_neederOf : FuncId} {f_oneWay : FuncId} {f_nTable : FuncId} (is : Is P n (a_OneWayTable f_isMost f_neederOf f_oneWay f_nTable)) (h_isMost : Γ f_isMost = c_isMost) (h_nTable : Γ f_nTable = c_nTable) {Γ1 : Gam} (h_neederOf : Γ f_neederOf = c_neederOf Γ1) (h_oneWay : Γ1 f_oneWay = c_oneWay) : Says P n c_OneWayTable := by
  refine Says.pure fun args r fs h => ?_
  split at h
  case h_2 => cases h
  rename_i m
  split at h
  case isFalse => cases h
  rename_i hc
  simp only [ofI_ints, ofBo_bools, ofAs_asks, Option.some.injEq, Prod.mk.injEq] at h hc
  obtain ⟨rfl, rfl⟩ := h
  cases h2 : (decide (0 ≤ m) && decide (m ≤ 2)) with
  | false =>
    refine is.go hm hΓ k_OneWayTable o_OneWayTable (by simp [a_OneWayTable]) ?_
    simp only [a_OneWayTable, h_isMost, c_isMost, h_nTable, c_nTable, h2, Bool.false_eq_true, List.zipIdx_cons, List.zipIdx_nil, ↓SP, SQ, SU, stepM, callC, argC, nmBy, stepD, stepW, fz, loadA, cellsA, binA, snap, thaw, fzAll, elemOf, partsA, buildA, putCells, ↓reduceIte, reduceCtorEq, okCell, Nat.reduceAdd, Nat.reduceEqDiff, Nat.reduceSub, Nat.reduceMul, Nat.reduceLeDiff, Nat.reduceLT, Nat.reduceBEq]
    refine finA_gen [] trivial (by simp [retA, rvA, mkE_cons, mk_nil, mkO_cons, mkO_nil, loadA, SV.tr, SV.trL, nmF, rn_nil, rn_cons1, rn_cons2, plainOb, SV.refsL, SV.refs, Ob.refs, X, F, List.range_succ, mkO, setO_mk]; rfl) ?_ ?_ ?_ ?_ ?_ ?_ ?_ <;> simp [retA, rvA, mkE_cons, mk_nil, mkO_cons, mkO_nil, loadA, SV.tr, SV.trL, nmF, rn_nil, rn_cons1, rn_cons2, plainOb, SV.refsL, SV.refs, Ob.refs, X, F, List.range_succ, mkO, setO_mk]
  | true =>
    have hq2 : 0 ≤ m ∧ m ≤ 2 := by simpa using h2
    have hne := neederOf_one h_oneWay
    have hE := okE_nES false
    have hta : taF (fun k => ofE (nES false) (frL (k : Nat) m)) 8 = taF (gF false m) 8 := taF_congr fun k hk => ofE_nES false (fr_okC (by omega) hq2)
    refine is.go hm hΓ k_OneWayTable o_OneWayTable (by simp [a_OneWayTable]) ?_
    simp only [a_OneWayTable, h_isMost, c_isMost, h_nTable, c_nTable, h2, hq2, h_neederOf, hne, hE, hta, List.zipIdx_cons, List.zipIdx_nil, ↓SP, SQ, SU, stepM, callC, argC, nmBy, stepD, stepW, fz, loadA, cellsA, binA, snap, thaw, fzAll, elemOf, partsA, buildA, putCells, ↓reduceIte, reduceCtorEq, okCell, Nat.reduceAdd, Nat.reduceEqDiff, Nat.reduceSub, Nat.reduceMul, Nat.reduceLeDiff, Nat.reduceLT, Nat.reduceBEq]
    refine finA_gen [9] trivial (by simp [retA, rvA, mkE_cons, mk_nil, mkO_cons, mkO_nil, loadA, SV.tr, SV.trL, nmF, rn_nil, rn_cons1, rn_cons2, plainOb, SV.refsL, SV.refs, Ob.refs, X, F, List.range_succ, mkO, setO_mk]; rfl) ?_ ?_ ?_ ?_ ?_ ?_ ?_ <;> simp [retA, rvA, mkE_cons, mk_nil, mkO_cons, mkO_nil, loadA, SV.tr, SV.trL, nmF, rn_nil, rn_cons1, rn_cons2, plainOb, SV.refsL, SV.refs, Ob.refs, X, F, List.range_succ, mkO, setO_mk]
def c_s_OneWayTable : Con := pure' fun
  | [.p (.int .i64 m)] => if (True) then some (.tp [.ar 2000000, .p (.bool (decide (0 ≤ m) && decide (m ≤ 2)))], [.arr 1 (ints (if (decide (0 ≤ m) && decide (m ≤ 2)) = true then taF (gF false m) 8 else []))]) else none
  | _ => none
theorem s_s_OneWayTable {P : Program} (hm : P.follows .mixedOrders = true) {Γ : Gam} (hΓ : GS P Γ) {n : FuncId} {f_l1In : FuncId} {f_l10Needs : FuncId} {f_countsOf : FuncId} {f_l4Key : FuncId} (is : Is P n (a_s_OneWayTable f_l1In f_l10Needs f_countsOf f_l4Key)) (h_l1In : Γ f_l1In = c_in) (h_l10Needs : Γ f_l10Needs = c_l10Needs) (h_countsOf : Γ f_countsOf = c_countsOf) (h_l4Key : Γ f_l4Key = c_l4Key)  : Says P n c_s_OneWayTable := by
  refine Says.pure fun args r fs h => ?_
  split at h
  case h_2 => cases h
  rename_i m
  split at h
  case isFalse => cases h
  rename_i hc
  simp only [ofI_ints, ofBo_bools, ofAs_asks, Option.some.injEq, Prod.mk.injEq] at h hc
  obtain ⟨rfl, rfl⟩ := h
  cases h2 : (decide (0 ≤ m) && decide (m ≤ 2)) with
  | false =>
    refine is.go hm hΓ k_s_OneWayTable o_s_OneWayTable (by simp [a_s_OneWayTable]) ?_
    simp only [a_s_OneWayTable, h_l1In, c_in, h_l10Needs, c_l10Needs, h_countsOf, c_countsOf, h_l4Key, c_l4Key, h2, Bool.false_eq_true, List.zipIdx_cons, List.zipIdx_nil, ↓SP, SQ, SU, stepM, callC, argC, nmBy, stepD, stepW, fz, loadA, cellsA, binA, snap, thaw, fzAll, elemOf, partsA, buildA, putCells, ↓reduceIte, reduceCtorEq, okCell, Nat.reduceAdd, Nat.reduceEqDiff, Nat.reduceSub, Nat.reduceMul, Nat.reduceLeDiff, Nat.reduceLT, Nat.reduceBEq]
    refine finA_gen [7] trivial (by simp [retA, rvA, mkE_cons, mk_nil, mkO_cons, mkO_nil, loadA, SV.tr, SV.trL, nmF, rn_nil, rn_cons1, rn_cons2, plainOb, SV.refsL, SV.refs, Ob.refs, X, F, List.range_succ, mkO, setO_mk]; rfl) ?_ ?_ ?_ ?_ ?_ ?_ ?_ <;> simp [ints, retA, rvA, mkE_cons, mk_nil, mkO_cons, mkO_nil, loadA, SV.tr, SV.trL, nmF, rn_nil, rn_cons1, rn_cons2, plainOb, SV.refsL, SV.refs, Ob.refs, X, F, List.range_succ, mkO, setO_mk]
  | true =>
    have hq2 : 0 ≤ m ∧ m ≤ 2 := by simpa using h2
    obtain ⟨mm, rfl⟩ : ∃ j : Nat, m = j := ⟨m.toNat, by omega⟩
    have hwm := wrap_one (i := mm) (by omega)
    have m1 : (1 : Int) ≤ ((mm + 1 : Nat) : Int) := by omega
    have m3 : ((mm + 1 : Nat) : Int) ≤ 3 := by omega
    refine is.go hm hΓ k_s_OneWayTable o_s_OneWayTable (by simp [a_s_OneWayTable]) ?_
    simp only [a_s_OneWayTable, h_l1In, c_in, h_l10Needs, c_l10Needs, h_countsOf, c_countsOf, h_l4Key, c_l4Key, h2, hq2.1, hq2.2, hwm, m1, m3, Int.toNat_natCast, List.zipIdx_cons, List.zipIdx_nil, ↓SP, SQ, SU, stepM, callC, argC, nmBy, stepD, stepW, fz, loadA, cellsA, binA, snap, thaw, fzAll, elemOf, partsA, buildA, putCells, ↓reduceIte, reduceCtorEq, okCell, Nat.reduceAdd, Nat.reduceEqDiff, Nat.reduceSub, Nat.reduceMul, Nat.reduceLeDiff, Nat.reduceLT, Nat.reduceBEq]
    refine loop_at (fun s : Nat × SV × Option Ob => mkEnv [(0, si mm), (2, .p .nilsl), (3, sb false), (4, .ar 7), (5, .p (.sl 1 (ints (tabK (ntT tabO) (mm + 1) 6)))), (6, si ((s.1 + 1 : Nat) : Int)), (10, sb false), (16, s.2.1)]) (fun s => mkO [(7, some (.arr 1 (ints (taF (gF false mm) s.1)))), (27, s.2.2), (28, none)]) (fun s => s.1 ≤ 8) (fun s => 8 - s.1) (0, .junk, none) (by simp) rfl rfl ?_
    rintro ⟨n, c1, ob⟩ hn R0 hR hN
    simp only at hn
    by_cases h : n < 8
    · have h3 : ((n + 1 : Nat) : Int) ≤ 8 := by omega
      have hw := wrap_one (i := n + 1) (by omega)
      have hfo := fr_okC (n := n + 1) (m := mm) (by omega) hq2
      obtain ⟨⟨f1, f3⟩, f8, _⟩ := okC_out hfo
      have hfl : (frL ((n + 1 : Nat) : Int) mm).length = mm + 1 := by simp [frL]
      obtain ⟨k0, k1⟩ := keyN_bd (p := mm + 1) hfl f8
      have hkk : (keyL (frL ((n + 1 : Nat) : Int) mm)).toNat = keyN (frL ((n + 1 : Nat) : Int) mm) := rfl
      have hg := ints_get (l := tabK (ntT tabO) (mm + 1) 6) (i := keyN (frL ((n + 1 : Nat) : Int) mm)) (by rw [tabK_len]; exact k1)
      have htn := (tab_nd hfo).2
      rw [hfl] at htn
      have htn2 : (tabK (ntT tabO) (mm + 1) 6).getD (keyN (frL ((n + 1 : Nat) : Int) mm)) 0 = gF false mm (n + 1) := htn
      rw [htn2] at hg
      have hta := taF_one (gF false mm) n
      have hr : (taF (gF false mm) n).length + 1 ≤ roomA := by rw [taF_len]; unfold roomA; omega
      simp only [h3, hw, hq2, f3, f8, k0, hkk, hg, hta, hr, ints_len, ints_app1, ints_cell, h_countsOf, c_countsOf, h_l4Key, c_l4Key, isI_ints, ofI_ints, ↓SP, SQ, SU, stepM, callC, argC, nmBy, stepD, stepW, fz, loadA, cellsA, binA, snap, thaw, fzAll, elemOf, partsA, buildA, putCells, ↓reduceIte, reduceCtorEq, okCell, Nat.reduceAdd, Nat.reduceEqDiff, Nat.reduceSub, Nat.reduceMul, Nat.reduceLeDiff, Nat.reduceLT, Nat.reduceBEq]
      exact hN (n + 1, _, _) _ _ (by simp only; omega) (by simp only; omega) rfl rfl
    · have he : n = 8 := by omega
      subst he
      have h3 : ¬ ((8 + 1 : Nat) : Int) ≤ 8 := by omega
      simp only [h3, ↓SP, SQ, SU, stepM, callC, argC, nmBy, stepD, stepW, fz, loadA, cellsA, binA, snap, thaw, fzAll, elemOf, partsA, buildA, putCells, ↓reduceIte, reduceCtorEq, okCell, Nat.reduceAdd, Nat.reduceEqDiff, Nat.reduceSub, Nat.reduceMul, Nat.reduceLeDiff, Nat.reduceLT, Nat.reduceBEq]
      refine hR _ _ _ (by intro h; cases h) ?_
      simp only [↓SP, SQ, SU, stepM, callC, argC, nmBy, stepD, stepW, fz, loadA, cellsA, binA, snap, thaw, fzAll, elemOf, partsA, buildA, putCells, ↓reduceIte, reduceCtorEq, okCell, Nat.reduceAdd, Nat.reduceEqDiff, Nat.reduceSub, Nat.reduceMul, Nat.reduceLeDiff, Nat.reduceLT, Nat.reduceBEq]
      refine finA_gen [7] trivial (by simp [retA, rvA, mkE_cons, mk_nil, mkO_cons, mkO_nil, loadA, SV.tr, SV.trL, nmF, rn_nil, rn_cons1, rn_cons2, plainOb, SV.refsL, SV.refs, Ob.refs, X, F, List.range_succ, mkO, setO_mk]; rfl) ?_ ?_ ?_ ?_ ?_ ?_ ?_ <;> simp [retA, rvA, mkE_cons, mk_nil, mkO_cons, mkO_nil, loadA, SV.tr, SV.trL, nmF, rn_nil, rn_cons1, rn_cons2, plainOb, SV.refsL, SV.refs, Ob.refs, X, F, List.range_succ, mkO, setO_mk]
def a_SavedOneWay (f_AreCounts : FuncId) (f_neederOf : FuncId) (f_bothWays : FuncId) (f_nOf : FuncId) (f_oneWay : FuncId) : AFn := ⟨1, 
  .seq (.reg [⟨some 2, none, .d (.mv (.c (.int .i64 0)))⟩,
    ⟨some 3, none, .d (.mv (.c (.bool false)))⟩])
  (.seq (.seq (.reg [⟨some 4, none, .d (.mv (.t 0))⟩,
    ⟨some 5, none, .d (.call (.f f_AreCounts) [(.t 4)])⟩,
    ⟨some 6, none, .d (.not (.t 5))⟩])
  (.cond (.t 6) (.seq (.reg [⟨some 2, none, .d (.mv (.c (.int .i64 0)))⟩,
     ⟨some 3, none, .d (.mv (.c (.bool false)))⟩])
   (.ret)) (.skip)))
  (.seq (.reg [⟨some 7, none, .d (.call (.f f_neederOf) [(.f f_bothWays)])⟩,
    ⟨some 8, none, .d (.mv (.t 0))⟩,
    ⟨some 9, none, .d (.call (.f f_nOf) [(.t 7), (.t 8)])⟩,
    ⟨some 10, none, .d (.call (.f f_neederOf) [(.f f_oneWay)])⟩,
    ⟨some 11, none, .d (.mv (.t 0))⟩,
    ⟨some 12, none, .d (.call (.f f_nOf) [(.t 10), (.t 11)])⟩,
    ⟨some 13, none, .d (.bin .arith .sub (.t 9) (.t 12))⟩,
    ⟨some 2, none, .d (.mv (.t 13))⟩,
    ⟨some 3, none, .d (.mv (.c (.bool true)))⟩])
  (.ret))), [.tmp 2, .tmp 3]⟩
def n_SavedOneWay : Nat → Option Ann := fun _ => none
abbrev k_SavedOneWay : List Nat := [0, 2, 3, 6]
abbrev o_SavedOneWay : List Nat := []
def a_s_SavedOneWay (f_l4Counts : FuncId) (f_l4Key : FuncId) (f_l4Needs : FuncId) (f_l10Needs : FuncId) : AFn := ⟨1, 
  .seq (.reg [⟨some 2, none, .d (.mv (.c (.int .i64 0)))⟩,
    ⟨some 3, none, .d (.mv (.c (.bool false)))⟩])
  (.seq (.seq (.reg [⟨some 5, none, .d (.mv (.t 0))⟩,
    ⟨some 6, none, .d (.call (.f f_l4Counts) [(.t 5)])⟩,
    ⟨some 7, none, .d (.not (.t 6))⟩])
  (.cond (.t 7) (.seq (.reg [⟨some 2, none, .d (.mv (.c (.int .i64 0)))⟩,
     ⟨some 3, none, .d (.mv (.c (.bool false)))⟩])
   (.ret)) (.skip)))
  (.seq (.reg [⟨some 8, none, .d (.mv (.t 0))⟩,
    ⟨some 9, none, .d (.call (.f f_l4Key) [(.t 8)])⟩,
    ⟨some 4, none, .d (.mv (.t 9))⟩])
  (.seq (.dreg [] [([], ⟨some 10, none, .d (.mv (.t 0))⟩),
    ([], ⟨some 11, none, .d (.len (.t 10))⟩),
    ([], ⟨some 12, none, .d (.call (.f f_l4Needs) [(.t 11)])⟩),
    ([], ⟨some 13, none, .d (.mv (.t 4))⟩),
    ([], ⟨some 14, none, .d (.ia 1 (.t 12) (.t 13))⟩),
    ([], ⟨some 15, none, .d (.load false 1 (.t 14))⟩),
    ([], ⟨some 16, none, .d (.mv (.t 0))⟩),
    ([], ⟨some 17, none, .d (.len (.t 16))⟩),
    ([], ⟨some 18, none, .d (.call (.f f_l10Needs) [(.t 17)])⟩),
    ([], ⟨some 19, none, .d (.mv (.t 4))⟩),
    ([], ⟨some 20, none, .d (.ia 1 (.t 18) (.t 19))⟩),
    ([], ⟨some 21, none, .d (.load false 1 (.t 20))⟩)] [⟨some 22, none, .d (.bin .arith .sub (.t 15) (.t 21))⟩,
    ⟨some 2, none, .d (.mv (.t 22))⟩,
    ⟨some 3, none, .d (.mv (.c (.bool true)))⟩])
  (.ret)))), [.tmp 2, .tmp 3]⟩
def n_s_SavedOneWay : Nat → Option Ann := fun _ => none
abbrev k_s_SavedOneWay : List Nat := [0, 2, 3, 4, 7]
abbrev o_s_SavedOneWay : List Nat := []
def c_SavedOneWay : Con := pure' fun
  | [.p (.sl 1 c_)] => if isI c_ = true ∧ ((ofI c_).length ≤ 1100000) then some (.tp [.p (.int .i64 (if okC (ofI c_) = true then ndI true (ofI c_) - ndI false (ofI c_) else 0)), .p (.bool (okC (ofI c_)))], []) else none
  | _ => none
theorem s_SavedOneWay {P : Program} (hm : P.follows .mixedOrders = true) {Γ : Gam} (hΓ : GS P Γ) {n : FuncId} {f_AreCounts : FuncId} {f_neederOf : FuncId} {f_bothWays : FuncId} {f_nOf : FuncId} {f_oneWay : FuncId} (is : Is P n (a_SavedOneWay f_AreCounts f_neederOf f_bothWays f_nOf f_oneWay)) (h_AreCounts : Γ f_AreCounts = c_AreCounts) (h_nOf : Γ f_nOf = c_nOf) {Γ1 : Gam} (h_neederOf : Γ f_neederOf = c_neederOf Γ1) (h_bothWays : Γ1 f_bothWays = c_bothWays) (h_oneWay : Γ1 f_oneWay = c_oneWay) : Says P n c_SavedOneWay := by
  refine Says.pure fun args r fs h => ?_
  split at h
  case h_2 => cases h
  rename_i c_
  split at h
  case isFalse => cases h
  rename_i hc
  obtain ⟨hc_, hc⟩ := hc
  obtain ⟨c, rfl⟩ := isI_out hc_
  simp only [ofI_ints, ofBo_bools, ofAs_asks, Option.some.injEq, Prod.mk.injEq] at h hc
  obtain ⟨rfl, rfl⟩ := h
  cases h1 : okC c with
  | false =>
    refine is.go hm hΓ k_SavedOneWay o_SavedOneWay (by simp [a_SavedOneWay]) ?_
    simp only [a_SavedOneWay, h_AreCounts, c_AreCounts, h_nOf, c_nOf, hc, h1, Bool.false_eq_true, List.zipIdx_cons, List.zipIdx_nil, ↓SP, SQ, SU, stepM, callC, argC, nmBy, stepD, stepW, fz, loadA, cellsA, binA, snap, thaw, fzAll, elemOf, partsA, buildA, putCells, ↓reduceIte, reduceCtorEq, okCell, Nat.reduceAdd, Nat.reduceEqDiff, Nat.reduceSub, Nat.reduceMul, Nat.reduceLeDiff, Nat.reduceLT, Nat.reduceBEq]
    exact finA_val (by simp [retA, rvA, mkE_cons, mk_nil, mkO_cons, mkO_nil, loadA, SV.tr, SV.trL, nmF, rn_nil, rn_cons1, rn_cons2, plainOb, SV.refsL, SV.refs, Ob.refs, X, F, List.range_succ, mkO, setO_mk]) (by simp [SV.tr, SV.trL])
  | true =>
    have hne := neederOf_both h_bothWays
    have hne2 := neederOf_one h_oneWay
    obtain ⟨⟨l1, l3⟩, h8, _⟩ := okC_out h1
    have hE := okE_nES true
    have hE2 := okE_nES false
    have hof := ofE_nES true h1
    have hof2 := ofE_nES false h1
    have b1 := ndI_bd true h1
    have b2 := ndI_bd false h1
    have hw : IntKind.i64.wrap (ndI true c - ndI false c) = ndI true c - ndI false c := wrap64 (by omega) (by omega)
    refine is.go hm hΓ k_SavedOneWay o_SavedOneWay (by simp [a_SavedOneWay]) ?_
    simp only [a_SavedOneWay, h_AreCounts, c_AreCounts, h_nOf, c_nOf, hc, h1, h_neederOf, hne, hne2, l1, l3, hE, hE2, hof, hof2, hw, isI_ints, ofI_ints, ints_len, List.zipIdx_cons, List.zipIdx_nil, ↓SP, SQ, SU, stepM, callC, argC, nmBy, stepD, stepW, fz, loadA, cellsA, binA, snap, thaw, fzAll, elemOf, partsA, buildA, putCells, ↓reduceIte, reduceCtorEq, okCell, Nat.reduceAdd, Nat.reduceEqDiff, Nat.reduceSub, Nat.reduceMul, Nat.reduceLeDiff, Nat.reduceLT, Nat.reduceBEq]
    exact finA_val (by simp [retA, rvA, mkE_cons, mk_nil, mkO_cons, mkO_nil, loadA, SV.tr, SV.trL, nmF, rn_nil, rn_cons1, rn_cons2, plainOb, SV.refsL, SV.refs, Ob.refs, X, F, List.range_succ, mkO, setO_mk]) (by simp [SV.tr, SV.trL])
theorem s_s_SavedOneWay {P : Program} (hm : P.follows .mixedOrders = true) {Γ : Gam} (hΓ : GS P Γ) {n : FuncId} {f_l4Counts : FuncId} {f_l4Key : FuncId} {f_l4Needs : FuncId} {f_l10Needs : FuncId} (is : Is P n (a_s_SavedOneWay f_l4Counts f_l4Key f_l4Needs f_l10Needs)) (h_l4Counts : Γ f_l4Counts = c_AreCounts) (h_l4Key : Γ f_l4Key = c_l4Key) (h_l4Needs : Γ f_l4Needs = c_l4Needs) (h_l10Needs : Γ f_l10Needs = c_l10Needs)  : Says P n c_SavedOneWay := by
  refine Says.pure fun args r fs h => ?_
  split at h
  case h_2 => cases h
  rename_i c_
  split at h
  case isFalse => cases h
  rename_i hc
  obtain ⟨hc_, hc⟩ := hc
  obtain ⟨c, rfl⟩ := isI_out hc_
  simp only [ofI_ints, ofBo_bools, ofAs_asks, Option.some.injEq, Prod.mk.injEq] at h hc
  obtain ⟨rfl, rfl⟩ := h
  cases h1 : okC c with
  | false =>
    refine is.go hm hΓ k_s_SavedOneWay o_s_SavedOneWay (by simp [a_s_SavedOneWay]) ?_
    simp only [a_s_SavedOneWay, h_l4Counts, c_AreCounts, h_l4Key, c_l4Key, h_l4Needs, c_l4Needs, h_l10Needs, c_l10Needs, hc, h1, Bool.false_eq_true, List.zipIdx_cons, List.zipIdx_nil, ↓SP, SQ, SU, stepM, callC, argC, nmBy, stepD, stepW, fz, loadA, cellsA, binA, snap, thaw, fzAll, elemOf, partsA, buildA, putCells, ↓reduceIte, reduceCtorEq, okCell, Nat.reduceAdd, Nat.reduceEqDiff, Nat.reduceSub, Nat.reduceMul, Nat.reduceLeDiff, Nat.reduceLT, Nat.reduceBEq]
    exact finA_val (by simp [retA, rvA, mkE_cons, mk_nil, mkO_cons, mkO_nil, loadA, SV.tr, SV.trL, nmF, rn_nil, rn_cons1, rn_cons2, plainOb, SV.refsL, SV.refs, Ob.refs, X, F, List.range_succ, mkO, setO_mk]) (by simp [SV.tr, SV.trL])
  | true =>
    obtain ⟨⟨l1, l3⟩, h8, _⟩ := okC_out h1
    have l1' : (1 : Int) ≤ c.length := by omega
    have l3' : (c.length : Int) ≤ 3 := by omega
    obtain ⟨k0, k1⟩ := keyN_bd (p := c.length) rfl h8
    have hkk : (keyL c).toNat = keyN c := rfl
    have hg := ints_get (l := tabK (ntT tabB) c.length 9) (i := keyN c) (by rw [tabK_len]; exact k1)
    have hg2 := ints_get (l := tabK (ntT tabO) c.length 6) (i := keyN c) (by rw [tabK_len]; exact k1)
    have htn := tab_nd h1
    rw [htn.1] at hg
    rw [htn.2] at hg2
    have b1 := ndI_bd true h1
    have b2 := ndI_bd false h1
    have hw : IntKind.i64.wrap (ndI true c - ndI false c) = ndI true c - ndI false c := wrap64 (by omega) (by omega)
    refine is.go hm hΓ k_s_SavedOneWay o_s_SavedOneWay (by simp [a_s_SavedOneWay]) ?_
    simp only [a_s_SavedOneWay, h_l4Counts, c_AreCounts, h_l4Key, c_l4Key, h_l4Needs, c_l4Needs, h_l10Needs, c_l10Needs, hc, h1, l1', l3', l3, h8, k0, hkk, hg, hg2, hw, Int.toNat_natCast, isI_ints, ofI_ints, ints_len, List.zipIdx_cons, List.zipIdx_nil, ↓SP, SQ, SU, stepM, callC, argC, nmBy, stepD, stepW, fz, loadA, cellsA, binA, snap, thaw, fzAll, elemOf, partsA, buildA, putCells, ↓reduceIte, reduceCtorEq, okCell, Nat.reduceAdd, Nat.reduceEqDiff, Nat.reduceSub, Nat.reduceMul, Nat.reduceLeDiff, Nat.reduceLT, Nat.reduceBEq]
    exact finA_val (by simp [retA, rvA, mkE_cons, mk_nil, mkO_cons, mkO_nil, loadA, SV.tr, SV.trL, nmF, rn_nil, rn_cons1, rn_cons2, plainOb, SV.refsL, SV.refs, Ob.refs, X, F, List.range_succ, mkO, setO_mk]) (by simp [SV.tr, SV.trL])
theorem mem_spI {c : List Int} : ∀ {i : Nat} {s : List Int}, s.length = i → (∀ j, j < i → 0 ≤ s.getD j 0 ∧ s.getD j 0 ≤ c.getD j 0) → s ∈ spI c i
  | 0, s, hl, _ => by
    have : s = [] := List.length_eq_zero_iff.1 hl
    simp [spI, this]
  | i + 1, s, hl, h => by
    have h1 := take_one s i 0 (by omega)
    rw [List.take_of_length_le (by omega)] at h1
    have h2 : s.take i ∈ spI c i := mem_spI (by simp; omega) fun j hj => by
      have := h j (by omega)
      rw [List.getD_eq_getElem?_getD, List.getElem?_take, if_pos hj, ← List.getD_eq_getElem?_getD]; exact this
    have h3 := h i (by omega)
    simp only [spI, List.mem_flatMap, rowK, List.mem_map, List.mem_range]
    refine ⟨s.take i, h2, (s.getD i 0).toNat, by omega, ?_⟩
    have e : (((s.getD i 0).toNat : Nat) : Int) = s.getD i 0 := by omega
    rw [e]; exact h1.symm
theorem mem_spl {c s : List Int} (h : okSp c s = true) : s ∈ splL c := by
  obtain ⟨h1, h2⟩ := okSp_out h
  exact mem_spI h1 fun j _ => h2 j
theorem spl_okSp {c s : List Int} (h8 : in8 c = true) (h : s ∈ splL c) : okSp c s = true := by
  have hl := spl_len h
  refine okSp_all hl fun j hj => ?_
  have key : ∀ {i : Nat} {s : List Int}, s ∈ spI c i → ∀ j, j < i → 0 ≤ s.getD j 0 ∧ s.getD j 0 ≤ c.getD j 0 := by
    intro i
    induction i with
    | zero => intro s _ j hj; omega
    | succ i ih =>
      intro s hs j hj
      simp only [spI, List.mem_flatMap, rowK, List.mem_map, List.mem_range] at hs
      obtain ⟨b, hb, k, hk, rfl⟩ := hs
      have hbl := spI_mem_len hb
      by_cases hji : j < i
      · rw [kd_app_get (by omega)]; exact ih hb j hji
      · have hje : j = i := by omega
        subst hje
        have h3 := in8_get h8 j
        have e1 : (b ++ [(k : Int)]).getD j 0 = (k : Int) := by
          rw [List.getD_eq_getElem?_getD, List.getElem?_append_right (by omega), hbl]; simp
        rw [e1]; omega
  have h9 := key h j (by omega)
  rw [dec_t h9.1, dec_t h9.2]; rfl
/-- A split of counts that are not told leads to counts. -/
theorem sp_okC {c s : List Int} (hc : okC c = true) (hu : told c = false) (hs : s ∈ splL c) : okC (yesL c s) = true ∧ okC (noL c s) = true := by
  obtain ⟨⟨l1, l3⟩, h8, hsum⟩ := okC_out hc
  have hk := keyN_bd (p := c.length) rfl h8
  have hdg := dg_key (p := c.length) rfl l3 h8
  have hch := chk_of (okP_B l1 l3) hk.2 (by rw [hdg]; exact hsum) (by rw [hdg]; exact hu)
  rw [hdg] at hch
  have h2 := chk_inn hch hs
  have hsl := spl_len hs
  have hyl : (yesL c s).length = c.length := by rw [yesL_len, hsl]
  have hnl : (noL c s).length = c.length := by rw [noL_len, hsl]
  have hyb : yb true c s = yesL c s := rfl
  rw [hyb] at h2
  have e1 := pad_sum (c := yesL c s) (by omega) (mem_allT.1 h2.1)
  have e2 := pad_sum (c := noL c s) (by omega) (mem_allT.1 h2.2)
  constructor
  · simp only [okC, hyl, e1.1, dec_t e1.2, Bool.and_true]
    rw [dec_t (by omega), dec_t (by omega)]; rfl
  · simp only [okC, hnl, e2.1, dec_t e2.2, Bool.and_true]
    rw [dec_t (by omega), dec_t (by omega)]; rfl
def mxI (a b : Int) : Int := if a > b then a else b
theorem mxI_max (a b : Int) : (if b > a then b else a) = mxI a b := by
  simp only [mxI]
  by_cases h : b > a
  · rw [if_pos h, if_neg (by omega)]
  · rw [if_neg h]
    by_cases h2 : a > b
    · rw [if_pos h2]
    · rw [if_neg h2]; omega
def a_nSplit (f_nOf : FuncId) : AFn := ⟨3, 
  .seq (.reg [⟨some 3, none, .w (.box 2 (.t 0))⟩,
    ⟨some 6, none, .d (.mv (.c (.int .i64 0)))⟩])
  (.seq (.reg [⟨some 10, none, .d (.fa 0 (.t 3))⟩,
    ⟨some 11, none, .d (.load false 1 (.t 10))⟩,
    ⟨some 12, none, .d (.mv (.t 1))⟩,
    ⟨some 13, none, .d (.mv (.t 2))⟩,
    ⟨some 14, none, .d (.call (.t 11) [(.t 12), (.t 13)])⟩,
    ⟨some 9, none, .d (.mv (.t 14))⟩,
    ⟨some 15, none, .d (.extract (.t 9) 0)⟩,
    ⟨some 16, none, .d (.extract (.t 9) 1)⟩,
    ⟨some 7, none, .d (.mv (.t 15))⟩,
    ⟨some 8, none, .d (.mv (.t 16))⟩])
  (.seq (.dreg [] [([], ⟨some 17, none, .d (.load true 2 (.t 3))⟩),
    ([], ⟨some 18, none, .d (.mv (.t 7))⟩),
    ([], ⟨some 19, none, .d (.call (.f f_nOf) [(.t 17), (.t 18)])⟩),
    ([], ⟨some 20, none, .d (.load true 2 (.t 3))⟩),
    ([], ⟨some 21, none, .d (.mv (.t 8))⟩)] [⟨some 22, none, .d (.call (.f f_nOf) [(.t 20), (.t 21)])⟩,
    ⟨some 23, none, .d (.max2 (.t 19) (.t 22))⟩,
    ⟨some 24, none, .d (.bin .arith .add (.c (.int .i64 1)) (.t 23))⟩,
    ⟨some 6, none, .d (.mv (.t 24))⟩])
  (.ret))), [.tmp 6]⟩
def n_nSplit : Nat → Option Ann := fun _ => none
abbrev k_nSplit : List Nat := [0, 1, 2, 3, 6, 7, 8]
abbrev o_nSplit : List Nat := [3]
open Classical in
noncomputable def c_nSplit (Γ0 : Gam) : Con := pure' fun
  | [.p (.agg [.fn g [] [], .mapv es]), .p (.sl 1 c_), .p (.sl 1 s_)] =>
    if (Γ0 g = c_bothWays ∨ Γ0 g = c_oneWay) ∧ okE es = true ∧ isI c_ = true ∧ isI s_ = true ∧ 1 ≤ c_.length ∧ c_.length ≤ 3 ∧ s_.length = c_.length ∧ bd 1000 (ofI c_) = true ∧ bd 1000 (ofI s_) = true then
      some (.p (.int .i64 (1 + mxI (ofE es (ruleY Γ0 g (ofI c_) (ofI s_))) (ofE es (noL (ofI c_) (ofI s_))))), [])
    else none
  | _ => none
theorem s_nSplit {P : Program} (hm : P.follows .mixedOrders = true) {Γ : Gam} (hΓ : GS P Γ) {n : FuncId} {f_nOf : FuncId} (is : Is P n (a_nSplit f_nOf)) (h_nOf : Γ f_nOf = c_nOf)  : Says P n (c_nSplit Γ) := by
  refine Says.pure fun args r fs h => ?_
  split at h
  case h_2 => cases h
  rename_i g es c_ s_
  split at h
  case isFalse => cases h
  rename_i hc
  obtain ⟨hg, hok, hc_, hs_, l1, l3, hsl, hb1, hb2⟩ := hc
  obtain ⟨c, rfl⟩ := isI_out hc_
  obtain ⟨s, rfl⟩ := isI_out hs_
  rw [ints_len] at l1 l3
  rw [ints_len, ints_len] at hsl
  simp only [ofI_ints] at hb1 hb2
  simp only [ofI_ints, Option.some.injEq, Prod.mk.injEq] at h
  obtain ⟨rfl, rfl⟩ := h
  have hcl : c.length ≤ 1100000 := by omega
  have hyl : (yesL c s).length = c.length := by rw [yesL_len, hsl]
  have hnl : (noL c s).length = c.length := by rw [noL_len, hsl]
  have y1 : 1 ≤ (yesL c s).length := by omega
  have y3 : (yesL c s).length ≤ 3 := by omega
  have n1 : 1 ≤ (noL c s).length := by omega
  have n3 : (noL c s).length ≤ 3 := by omega
  have s1 : 1 ≤ s.length := by omega
  have s3 : s.length ≤ 3 := by omega
  have bn := ofE_bd hok n3
  have key : ∀ a b : Int, -1000 ≤ a → a ≤ 1000 → -1000 ≤ b → b ≤ 1000 → IntKind.i64.wrap (1 + (if b > a then b else a)) = 1 + mxI a b := fun a b h1 h2 h3 h4 => by
    rw [mxI_max]
    refine wrap64 ?_ ?_ <;> (simp only [mxI]; split <;> omega)
  rcases hg with hg | hg
  · rw [ruleY_both hg]
    have by' := ofE_bd hok y3
    have hw := key _ _ by'.1 by'.2 bn.1 bn.2
    refine is.go hm hΓ k_nSplit o_nSplit (by simp [a_nSplit]) ?_
    simp only [a_nSplit, h_nOf, c_nOf, hg, c_bothWays, hcl, l1, hsl, hb1, hb2, hok, y1, y3, n1, n3, hw, isI_ints, ofI_ints, ints_len, List.zipIdx_cons, List.zipIdx_nil, ↓SP, SQ, SU, stepM, callC, argC, nmBy, stepD, stepW, fz, loadA, cellsA, binA, snap, thaw, fzAll, elemOf, partsA, buildA, putCells, ↓reduceIte, reduceCtorEq, okCell, Nat.reduceAdd, Nat.reduceEqDiff, Nat.reduceSub, Nat.reduceMul, Nat.reduceLeDiff, Nat.reduceLT, Nat.reduceBEq]
    exact finA_val (by simp [retA, rvA, mkE_cons, mk_nil, mkO_cons, mkO_nil, loadA, SV.tr, SV.trL, nmF, rn_nil, rn_cons1, rn_cons2, plainOb, SV.refsL, SV.refs, Ob.refs, X, F, List.range_succ, mkO, setO_mk]) (by simp [SV.tr, SV.trL])
  · rw [ruleY_one hg]
    have bs := ofE_bd hok s3
    have hw := key _ _ bs.1 bs.2 bn.1 bn.2
    refine is.go hm hΓ k_nSplit o_nSplit (by simp [a_nSplit]) ?_
    simp only [a_nSplit, h_nOf, c_nOf, hg, c_oneWay, hcl, l1, l3, hsl, hb1, hb2, hok, s1, s3, n1, n3, hw, isI_ints, ofI_ints, ints_len, List.zipIdx_cons, List.zipIdx_nil, ↓SP, SQ, SU, stepM, callC, argC, nmBy, stepD, stepW, fz, loadA, cellsA, binA, snap, thaw, fzAll, elemOf, partsA, buildA, putCells, ↓reduceIte, reduceCtorEq, okCell, Nat.reduceAdd, Nat.reduceEqDiff, Nat.reduceSub, Nat.reduceMul, Nat.reduceLeDiff, Nat.reduceLT, Nat.reduceBEq]
    exact finA_val (by simp [retA, rvA, mkE_cons, mk_nil, mkO_cons, mkO_nil, loadA, SV.tr, SV.trL, nmF, rn_nil, rn_cons1, rn_cons2, plainOb, SV.refsL, SV.refs, Ob.refs, X, F, List.range_succ, mkO, setO_mk]) (by simp [SV.tr, SV.trL])
theorem okw_of {c : List Int} (hc : okC c = true) (hu : told c = false) : isOKw c = true := by
  obtain ⟨⟨l1, l3⟩, h8, hsum⟩ := okC_out hc
  have hk := keyN_bd (p := c.length) rfl h8
  have hdg := dg_key (p := c.length) rfl l3 h8
  have := open_okw l1 l3 hk.2 (by rw [hdg]; exact hsum) (by rw [hdg]; exact hu)
  rwa [hdg] at this
def lsOf (xs : List PV) : List (List Int) := xs.map fun
  | .sl _ ys => ofI ys
  | _ => []
theorem lsOf_sls (L : List (List Int)) : lsOf (sls L) = L := by
  simp only [lsOf, sls, List.map_map]
  have : ((fun x : PV => match x with | .sl _ ys => ofI ys | _ => []) ∘ fun l : List Int => PV.sl 1 (ints l)) = id := by funext l; simp [ofI_ints]
  rw [this, List.map_id]
theorem sls_set (L : List (List Int)) (i : Nat) (l : List Int) : (sls L).set i (.sl 1 (ints l)) = sls (L.set i l) := by simp [sls, List.map_set]
theorem putPV_sls (L : List (List Int)) (i n : Nat) (h : i + n ≤ L.length) : putPV (sls L) i (List.replicate n .nilsl) = sls (L.take i) ++ List.replicate n .nilsl ++ sls (L.drop (i + n)) := by
  rw [putPV_eq _ _ _ (by simp [sls_len]; omega)]
  simp [sls, List.map_take, List.map_drop]
def a_DelS (f_IndexFuncS : FuncId) : AFn := ⟨2, 
  .seq (.reg [⟨some 4, none, .d (.mv (.c (.nilsl)))⟩])
  (.seq (.reg [⟨some 8, none, .d (.mv (.t 0))⟩,
    ⟨some 9, none, .d (.mv (.t 1))⟩,
    ⟨some 10, none, .d (.call (.f f_IndexFuncS) [(.t 8), (.t 9)])⟩,
    ⟨some 5, none, .d (.mv (.t 10))⟩])
  (.seq (.seq (.reg [⟨some 11, none, .d (.mv (.t 5))⟩,
    ⟨some 12, none, .d (.bin .arith .eql (.t 11) (.c (.int .i64 (-1))))⟩])
  (.cond (.t 12) (.seq (.reg [⟨some 13, none, .d (.mv (.t 0))⟩,
     ⟨some 4, none, .d (.mv (.t 13))⟩])
   (.ret)) (.skip)))
  (.seq (.seq (.reg [⟨some 14, none, .d (.mv (.t 5))⟩,
    ⟨some 15, none, .d (.bin .arith .add (.t 14) (.c (.int .i64 1)))⟩,
    ⟨some 6, none, .d (.mv (.t 15))⟩])
  (.block 0 (.loop (.seq (.seq (.reg [⟨some 16, none, .d (.mv (.t 6))⟩,
      ⟨some 17, none, .d (.mv (.t 0))⟩,
      ⟨some 18, none, .d (.len (.t 17))⟩,
      ⟨some 19, none, .d (.bin .arith .lss (.t 16) (.t 18))⟩])
    (.cond (.t 19) (.skip) (.exit 0)))
    (.seq (.block 1 (.seq (.reg [⟨some 22, none, .d (.mv (.t 0))⟩,
       ⟨some 23, none, .d (.mv (.t 6))⟩,
       ⟨some 24, none, .d (.ia 1 (.t 22) (.t 23))⟩,
       ⟨some 25, none, .d (.load false 1 (.t 24))⟩,
       ⟨some 7, none, .d (.mv (.t 25))⟩])
     (.seq (.reg [⟨some 26, none, .d (.mv (.t 1))⟩,
       ⟨some 27, none, .d (.mv (.t 7))⟩,
       ⟨some 28, none, .d (.call (.t 26) [(.t 27)])⟩,
       ⟨some 29, none, .d (.not (.t 28))⟩])
     (.cond (.t 29) (.seq (.reg [⟨some 30, none, .d (.mv (.t 0))⟩,
        ⟨some 31, none, .d (.mv (.t 5))⟩,
        ⟨some 32, none, .d (.mv (.t 7))⟩,
        ⟨some 33, none, .d (.ia 1 (.t 30) (.t 31))⟩,
        ⟨none, none, .w (.store 1 (.t 33) (.t 32))⟩])
      (.reg [⟨some 34, none, .d (.mv (.t 5))⟩,
        ⟨some 35, none, .d (.bin .arith .add (.t 34) (.c (.int .i64 1)))⟩,
        ⟨some 5, none, .d (.mv (.t 35))⟩])) (.skip)))))
    (.reg [⟨some 20, none, .d (.mv (.t 6))⟩,
      ⟨some 21, none, .d (.bin .arith .add (.t 20) (.c (.int .i64 1)))⟩,
      ⟨some 6, none, .d (.mv (.t 21))⟩]))))))
  (.seq (.reg [⟨some 36, none, .d (.mv (.t 0))⟩,
    ⟨some 37, none, .d (.mv (.t 5))⟩,
    ⟨some 38, none, .d (.slc 1 (.t 36) (some (.t 37)) none)⟩,
    ⟨none, none, .w (.clear 1 (.nilsl) (.t 38))⟩])
  (.seq (.reg [⟨some 39, none, .d (.mv (.t 0))⟩,
    ⟨some 40, none, .d (.mv (.t 5))⟩,
    ⟨some 41, none, .d (.slc 1 (.t 39) none (some (.t 40)))⟩,
    ⟨some 4, none, .d (.mv (.t 41))⟩])
  (.ret)))))), [.tmp 4]⟩
def n_DelS : Nat → Option Ann := fun _ => none
abbrev k_DelS : List Nat := [0, 1, 4, 5, 6, 7, 12, 19, 29]
abbrev o_DelS : List Nat := []
def c_DelS (Γ0 Γ1 : Gam) : Con
  | [.ar 1000000, .p (.fn g a b)], [.arr 1 xs] => if isS xs = true ∧ xs.length ≤ 1100000 then (match askF Γ0 g a b xs, askF Γ1 g a b xs with
      | some bs, some bs' => if bs = bs' ∧ bs.any id = true then some (.sub 1000000 0 (kpI [] (lsOf xs) bs xs.length).length, [.arr 1 (sls (kpI [] (lsOf xs) bs xs.length) ++ List.replicate (xs.length - (kpI [] (lsOf xs) bs xs.length).length) .nilsl)], []) else none
      | _, _ => none) else none
  | _, _ => none
theorem s_DelS {P : Program} (hm : P.follows .mixedOrders = true) {Γ : Gam} (hΓ : GS P Γ) {n : FuncId} {f_IndexFuncS : FuncId} (is : Is P n (a_DelS f_IndexFuncS)) {Γ0 : Gam} (h_IndexFuncS : Γ f_IndexFuncS = c_IndexFuncS Γ0) : Says P n (c_DelS Γ0 Γ) := by
  intro args ext r ext' fs h
  unfold c_DelS at h
  split at h
  case h_2 => cases h
  rename_i g a b xs
  split at h
  case isFalse => cases h
  rename_i hc
  obtain ⟨hx, hn⟩ := hc
  obtain ⟨L, rfl⟩ := isS_out hx
  rw [sls_len] at hn
  split at h
  case h_2 => cases h
  rename_i bs bs' hbs hbs'
  split at h
  case isFalse => cases h
  rename_i hc2
  obtain ⟨rfl, hany⟩ := hc2
  simp only [lsOf_sls, Option.some.injEq, Prod.mk.injEq, sls_len] at h
  obtain ⟨rfl, rfl, rfl⟩ := h
  have hbl := askF_len hbs
  rw [sls_len] at hbl
  obtain ⟨i0, hi0, hf, hpre, hat⟩ := firstT_out hany
  rw [hbl] at hi0
  have hm1 : ((i0 : Int) == -1) = false := beq_eq_false_iff_ne.2 (by omega)
  have hw0 := wrap_one (i := i0) (by omega)
  have hk0 : kpI [] L bs (i0 + 1) = L.take i0 := by rw [kpI_no hat, kpI_all (by omega) hpre]
  have hk0l : (kpI [] L bs (i0 + 1)).length = i0 := by rw [hk0]; simp; omega
  have hstart : kpI [] L bs (i0 + 1) ++ L.drop (kpI [] L bs (i0 + 1)).length = L := by rw [hk0l, hk0, List.take_append_drop]
  refine is.goX hm hΓ k_DelS (1000000 :: o_DelS) (by simp [a_DelS]) (by simp) ?_
  simp only [a_DelS, h_IndexFuncS, c_IndexFuncS, hbs, hf, hm1, hw0, hx, hn, sls_len, List.zipIdx_cons, List.zipIdx_nil, ↓SP, SQ, SU, stepM, callC, argC, nmBy, stepD, stepW, fz, loadA, cellsA, binA, snap, thaw, fzAll, elemOf, partsA, buildA, putCells, ↓reduceIte, reduceCtorEq, okCell, Nat.reduceAdd, Nat.reduceEqDiff, Nat.reduceSub, Nat.reduceMul, Nat.reduceLeDiff, Nat.reduceLT, Nat.reduceBEq]
  refine loop_at (fun st : J => mkEnv [(0, .ar 1000000), (1, .p (.fn g a b)), (4, .p .nilsl), (5, si (kpI [] L bs st.i).length), (6, si st.i), (7, st.a), (12, sb false), (19, st.b), (29, st.c)]) (fun st => mkO [(1000000, some (.arr 1 (sls (kpI [] L bs st.i ++ L.drop (kpI [] L bs st.i).length))))]) (fun st => st.i ≤ L.length) (fun st => L.length - st.i) ⟨i0 + 1, .junk, .junk, .junk, .junk, .junk, .junk, .junk, .junk, .junk, .junk, .junk, .junk, none, none, none⟩ (by simp only; omega) (by simp only [hk0l]; try rfl) (by simp only [hstart]; try rfl) ?_
  rintro ⟨j, c1, c2, c3, c4, c5, c6, c7, c8, c9, c10, c11, c12, o1, o2, o3⟩ hj R hR hN
  simp only at hj
  have hmm := kpI_len [] L bs j
  have hkl := kd_len (d := []) (bs := bs) hj
  by_cases h : j < L.length
  · have h1 : (j : Int) < L.length := by omega
    have hw := wrap_one (i := j) (by omega)
    have hkg := kd_get (d := []) (bs := bs) h
    have hgL := sls_get h
    have hg := sls_get (L := kpI [] L bs j ++ L.drop (kpI [] L bs j).length) (i := j) (by rw [hkl]; exact h)
    rw [hkg] at hg
    obtain ⟨l, hl⟩ : ∃ l, L.getD j [] = l := ⟨_, rfl⟩
    rw [hl] at hgL hg
    have q3 : (kpI [] L bs j).length < L.length := by omega
    have hq := askF_get hbs' hgL
    have hwm := wrap_one (i := (kpI [] L bs j).length) (by omega)
    cases hb : bs.getD j false with
    | false =>
      rw [hb] at hq
      have hset : (kpI [] L bs j ++ L.drop (kpI [] L bs j).length).set (kpI [] L bs j).length l = kpI [] L bs (j + 1) ++ L.drop (kpI [] L bs (j + 1)).length := by
        rw [← hl]; exact kd_set h hb
      have hlen1 : (kpI [] L bs (j + 1)).length = (kpI [] L bs j).length + 1 := by rw [kpI_yes hb]; simp
      obtain ⟨e1, he1⟩ : ∃ e, (sls (kpI [] L bs j ++ L.drop (kpI [] L bs j).length))[(kpI [] L bs j).length]? = some e := ⟨_, List.getElem?_eq_getElem (by rw [sls_len, hkl]; exact q3)⟩
      simp only [h, h1, hw, hg, hkl, q3, he1, sls_set, hset, hwm, ← hlen1, call_ps, refs_ps, hq, sls_len, Nat.zero_add, ↓SP, SQ, SU, stepM, callC, argC, nmBy, stepD, stepW, fz, loadA, cellsA, binA, snap, thaw, fzAll, elemOf, partsA, buildA, putCells, ↓reduceIte, reduceCtorEq, okCell, Nat.reduceAdd, Nat.reduceEqDiff, Nat.reduceSub, Nat.reduceMul, Nat.reduceLeDiff, Nat.reduceLT, Nat.reduceBEq]
      exact hN ⟨j + 1, _, _, _, .junk, .junk, .junk, .junk, .junk, .junk, .junk, .junk, .junk, none, none, none⟩ _ _ (by simp only; omega) (by simp only; omega) rfl rfl
    | true =>
      rw [hb] at hq
      have hsame := kpI_no (d := []) (L := L) hb
      simp only [h, h1, hw, hg, hkl, call_ps, refs_ps, hq, sls_len, Nat.zero_add, ↓SP, SQ, SU, stepM, callC, argC, nmBy, stepD, stepW, fz, loadA, cellsA, binA, snap, thaw, fzAll, elemOf, partsA, buildA, putCells, ↓reduceIte, reduceCtorEq, okCell, Nat.reduceAdd, Nat.reduceEqDiff, Nat.reduceSub, Nat.reduceMul, Nat.reduceLeDiff, Nat.reduceLT, Nat.reduceBEq]
      exact hN ⟨j + 1, _, _, _, .junk, .junk, .junk, .junk, .junk, .junk, .junk, .junk, .junk, none, none, none⟩ _ _ (by simp only; omega) (by simp only; omega) (by rw [hsame]) (by rw [hsame])
  · have he : j = L.length := by omega
    have h1 : ¬ (j : Int) < L.length := by omega
    subst he
    have hcl : putPV (sls (kpI [] L bs L.length ++ L.drop (kpI [] L bs L.length).length)) (kpI [] L bs L.length).length (List.replicate (L.length - (kpI [] L bs L.length).length) .nilsl) = sls (kpI [] L bs L.length) ++ List.replicate (L.length - (kpI [] L bs L.length).length) .nilsl := by
      rw [putPV_sls _ _ _ (by rw [hkl]; omega)]
      have e1 : (kpI [] L bs L.length).length + (L.length - (kpI [] L bs L.length).length) = L.length := by omega
      rw [e1, List.take_left, List.drop_of_length_le (by rw [hkl]; exact Nat.le_refl _)]
      simp [sls]
    have hdl : (sls (kpI [] L bs L.length) ++ List.replicate (L.length - (kpI [] L bs L.length).length) PV.nilsl).length = L.length := by simp [sls_len]; omega
    simp only [h1, hkl, sls_len, ↓SP, SQ, SU, stepM, callC, argC, nmBy, stepD, stepW, fz, loadA, cellsA, binA, snap, thaw, fzAll, elemOf, partsA, buildA, putCells, ↓reduceIte, reduceCtorEq, okCell, Nat.reduceAdd, Nat.reduceEqDiff, Nat.reduceSub, Nat.reduceMul, Nat.reduceLeDiff, Nat.reduceLT, Nat.reduceBEq]
    refine hR _ _ _ (by intro h; cases h) ?_
    simp only [hkl, hmm, hcl, hdl, sls_len, Nat.zero_add, Nat.sub_zero, ↓SP, SQ, SU, stepM, callC, argC, nmBy, stepD, stepW, fz, loadA, cellsA, binA, snap, thaw, fzAll, elemOf, partsA, buildA, putCells, ↓reduceIte, reduceCtorEq, okCell, Nat.reduceAdd, Nat.reduceEqDiff, Nat.reduceSub, Nat.reduceMul, Nat.reduceLeDiff, Nat.reduceLT, Nat.reduceBEq]
    refine finA_gen [] trivial (by simp [retA, rvA, mkE_cons, mk_nil, mkO_cons, mkO_nil, loadA, SV.tr, SV.trL, nmF, rn_nil, rn_cons1, rn_cons2, plainOb, SV.refsL, SV.refs, Ob.refs, X, F, List.range_succ, mkO, setO_mk]; rfl) ?_ ?_ ?_ ?_ ?_ ?_ ?_ <;> simp [retA, rvA, mkE_cons, mk_nil, mkO_cons, mkO_nil, loadA, SV.tr, SV.trL, nmF, rn_nil, rn_cons1, rn_cons2, plainOb, SV.refsL, SV.refs, Ob.refs, X, F, List.range_succ, mkO, setO_mk]
def a_best1 (f_nSplit : FuncId) : AFn := ⟨4, 
  .seq (.reg [⟨some 5, none, .d (.mv (.c (.bool false)))⟩])
  (.seq (.dreg [] [([], ⟨some 6, none, .d (.load true 2 (.t 1))⟩),
    ([], ⟨some 7, none, .d (.load false 1 (.t 2))⟩),
    ([], ⟨some 8, none, .d (.mv (.t 0))⟩),
    ([], ⟨some 9, none, .d (.call (.f f_nSplit) [(.t 6), (.t 7), (.t 8)])⟩),
    ([], ⟨some 10, none, .d (.load false 1 (.t 3))⟩)] [⟨some 11, none, .d (.bin .arith .neq (.t 9) (.t 10))⟩,
    ⟨some 5, none, .d (.mv (.t 11))⟩])
  (.ret)), [.tmp 5]⟩
def n_best1 : Nat → Option Ann := fun _ => none
abbrev k_best1 : List Nat := [0, 1, 2, 3, 5]
abbrev o_best1 : List Nat := []
noncomputable def c_best1 (Γ2 : Gam) : Con := pure' fun
  | [.p (.sl 1 s_), .p (.cp [.fn g [] [], .mapv es]), .p (.cp [.sl 1 c_]), .p (.cp [.int .i64 nd])] =>
    (match c_nSplit Γ2 [.p (.agg [.fn g [] [], .mapv es]), .p (.sl 1 c_), .p (.sl 1 s_)] [] with
      | some (.p (.int .i64 v), [], []) => some (.p (.bool (v != nd)), [])
      | _ => none)
  | _ => none
theorem s_best1 {P : Program} (hm : P.follows .mixedOrders = true) {Γ : Gam} (hΓ : GS P Γ) {n : FuncId} {f_nSplit : FuncId} (is : Is P n (a_best1 f_nSplit)) {Γ2 : Gam} (h_nSplit : Γ f_nSplit = c_nSplit Γ2) : Says P n (c_best1 Γ2) := by
  refine Says.pure fun args r fs h => ?_
  split at h
  case h_2 => cases h
  rename_i s_ g es c_ nd
  split at h
  case h_2 => cases h
  rename_i v hv
  simp only [Option.some.injEq, Prod.mk.injEq] at h
  obtain ⟨rfl, rfl⟩ := h
  refine is.go hm hΓ k_best1 o_best1 (by simp [a_best1]) ?_
  simp only [a_best1, h_nSplit, hv, List.zipIdx_cons, List.zipIdx_nil, ↓SP, SQ, SU, stepM, callC, argC, nmBy, stepD, stepW, fz, loadA, cellsA, binA, snap, thaw, fzAll, elemOf, partsA, buildA, putCells, ↓reduceIte, reduceCtorEq, okCell, Nat.reduceAdd, Nat.reduceEqDiff, Nat.reduceSub, Nat.reduceMul, Nat.reduceLeDiff, Nat.reduceLT, Nat.reduceBEq]
  exact finA_val (by simp [retA, rvA, mkE_cons, mk_nil, mkO_cons, mkO_nil, loadA, SV.tr, SV.trL, nmF, rn_nil, rn_cons1, rn_cons2, plainOb, SV.refsL, SV.refs, Ob.refs, X, F, List.range_succ, mkO, setO_mk]) (by simp [SV.tr, SV.trL])
/-- Whether a split has the need of counts. -/
noncomputable def beQ (Γ2 : Gam) (g : FuncId) (es : List (PV × PV)) (c s : List Int) : Bool := decide (1 + mxI (ofE es (ruleY Γ2 g c s)) (ofE es (noL c s)) = ofE es c)
noncomputable def beL (Γ2 : Gam) (g : FuncId) (es : List (PV × PV)) (c : List Int) : List (List Int) := (splL c).filter (beQ Γ2 g es c)
def a_nBest (f_nOf : FuncId) (f_splits : FuncId) (f_best1 : FuncId) (f_DelS : FuncId) : AFn := ⟨2, 
  .seq (.reg [⟨some 2, none, .w (.box 2 (.t 0))⟩,
    ⟨some 3, none, .w (.box 1 (.t 1))⟩,
    ⟨some 4, none, .d (.mv (.c (.nilsl)))⟩])
  (.seq (.reg [⟨some 6, none, .d (.load true 2 (.t 2))⟩,
    ⟨some 7, none, .d (.load false 1 (.t 3))⟩,
    ⟨some 8, none, .d (.call (.f f_nOf) [(.t 6), (.t 7)])⟩,
    ⟨some 5, none, .w (.alloc [.int .i64 0])⟩,
    ⟨none, none, .w (.store 1 (.t 5) (.t 8))⟩])
  (.seq (.reg [⟨some 9, none, .d (.load false 1 (.t 3))⟩,
    ⟨some 10, none, .w (.callL (.f f_splits) [(.t 9)] [] 1 false)⟩,
    ⟨some 11, none, .d (.mkfn f_best1 [] [(.t 2), (.t 3), (.t 5)])⟩,
    ⟨some 12, none, .w (.callL (.f f_DelS) [(.t 10), (.t 11)] [10] 0 true)⟩,
    ⟨some 4, none, .d (.mv (.t 12))⟩])
  (.ret))), [.tmp 4]⟩
def n_nBest : Nat → Option Ann := fun d => if d = 10 then some ⟨[], 1, false⟩ else if d = 12 then some ⟨[10], 0, true⟩ else none
abbrev k_nBest : List Nat := [0, 1, 2, 3, 4, 5]
abbrev o_nBest : List Nat := [2, 3, 5, 10]
open Classical in
noncomputable def c_nBest (Γ2 : Gam) : Con := pure' fun
  | [.p (.agg [.fn g [] [], .mapv es]), .p (.sl 1 c_)] =>
    if (Γ2 g = c_bothWays ∨ Γ2 g = c_oneWay) ∧ okE es = true ∧ isI c_ = true ∧ okC (ofI c_) = true ∧ ((splL (ofI c_)).any fun s => !beQ Γ2 g es (ofI c_) s) = true then
      some (.sub 2000000 0 (beL Γ2 g es (ofI c_)).length, [.arr 1 (sls (beL Γ2 g es (ofI c_)) ++ List.replicate ((splL (ofI c_)).length - (beL Γ2 g es (ofI c_)).length) .nilsl)])
    else none
  | _ => none
theorem ask_best1 {Γ0 Γ2 : Gam} {f_best1 g : FuncId} {es : List (PV × PV)} {c : List Int} (h : Γ0 f_best1 = c_best1 Γ2) (hg : Γ2 g = c_bothWays ∨ Γ2 g = c_oneWay) (hE : okE es = true) (hc : okC c = true) :
    askF Γ0 f_best1 [] [.cp [.fn g [] [], .mapv es], .cp [.sl 1 (ints c)], .cp [.int .i64 (ofE es c)]] (sls (splL c)) = some ((splL c).map fun s => !beQ Γ2 g es c s) := by
  obtain ⟨⟨l1, l3⟩, h8, _⟩ := okC_out hc
  refine askF_eq fun s hs => ?_
  have hsl := spl_len hs
  have hs8 := spl_in8 h8 hs
  have hb1 : bd 1000 c = true := bd_in8 h8 (by omega)
  have hb2 : bd 1000 s = true := bd_in8 hs8 (by omega)
  have hq : (1 + mxI (ofE es (ruleY Γ2 g c s)) (ofE es (noL c s)) != ofE es c) = !beQ Γ2 g es c s := by
    simp only [beQ, bne]
    congr 1
  rw [h]
  simp only [List.nil_append, List.cons_append, List.map_cons, List.map_nil, c_best1, pure', c_nSplit, hg, hE, isI_ints, ofI_ints, ints_len, l1, l3, hsl, hb1, hb2, and_self, if_true, Option.map_some, hq]
theorem sls_app_take (L : List (List Int)) (r : List PV) : (sls L ++ r).take L.length = sls L := by
  have := List.take_left (l₁ := sls L) (l₂ := r)
  rwa [sls_len] at this
theorem s_nBest {P : Program} (hm : P.follows .mixedOrders = true) {Γ : Gam} (hΓ : GS P Γ) {n : FuncId} {f_nOf : FuncId} {f_splits : FuncId} {f_best1 : FuncId} {f_DelS : FuncId} (is : Is P n (a_nBest f_nOf f_splits f_best1 f_DelS)) (h_nOf : Γ f_nOf = c_nOf) (h_splits : Γ f_splits = c_splits) {Γ0 Γ1 Γ2 : Gam} (h_DelS : Γ f_DelS = c_DelS Γ0 Γ1) (h_best1a : Γ0 f_best1 = c_best1 Γ2) (h_best1b : Γ1 f_best1 = c_best1 Γ2) : Says P n (c_nBest Γ2) := by
  refine Says.pure fun args r fs h => ?_
  split at h
  case h_2 => cases h
  rename_i g es c_
  split at h
  case isFalse => cases h
  rename_i hc
  obtain ⟨hg, hE, hc_, hok, hany⟩ := hc
  obtain ⟨c, rfl⟩ := isI_out hc_
  rw [ofI_ints] at hok hany
  simp only [ofI_ints, Option.some.injEq, Prod.mk.injEq] at h
  obtain ⟨rfl, rfl⟩ := h
  obtain ⟨⟨l1, l3⟩, h8, _⟩ := okC_out hok
  have hsl := spI_len3 h8 l3
  have hsl2 : (splL c).length ≤ 1100000 := Nat.le_trans hsl (by omega)
  have a0 := ask_best1 h_best1a hg hE hok
  have a1 := ask_best1 h_best1b hg hE hok
  have hany2 : (((splL c).map fun s => !beQ Γ2 g es c s).any id) = true := by rw [List.any_map]; exact hany
  have hkp : kpI [] (splL c) ((splL c).map fun s => !beQ Γ2 g es c s) (splL c).length = beL Γ2 g es c := by
    rw [kpI_filter _ _ (Nat.le_refl _), List.take_length, beL]
    congr 1; funext s; simp
  have hdel : c_DelS Γ0 Γ1 [.ar 1000000, .p (.fn f_best1 [] [.cp [.fn g [] [], .mapv es], .cp [.sl 1 (ints c)], .cp [.int .i64 (ofE es c)]])] [.arr 1 (sls (splL c))] = some (.sub 1000000 0 (beL Γ2 g es c).length, [.arr 1 (sls (beL Γ2 g es c) ++ List.replicate ((splL c).length - (beL Γ2 g es c).length) .nilsl)], []) := by
    simp only [c_DelS, isS_sls, sls_len, hsl2, a0, a1, hany2, lsOf_sls, hkp, and_self, if_true]
  have hle : (beL Γ2 g es c).length ≤ (splL c).length := List.length_filter_le _ _
  have hlen : (sls (beL Γ2 g es c) ++ List.replicate ((splL c).length - (beL Γ2 g es c).length) PV.nilsl).length = (splL c).length := by simp [sls_len]; omega
  have hbe : ((splL c).length == (splL c).length) = true := beq_self_eq_true _
  refine is.go hm hΓ k_nBest o_nBest (by simp [a_nBest]) ?_
  simp only [a_nBest, h_nOf, c_nOf, h_splits, c_splits, hE, l1, l3, h8, h_DelS, hdel, hlen, hbe, sls_len, isI_ints, ofI_ints, ints_len, List.zipIdx_cons, List.zipIdx_nil, ↓SP, SQ, SU, stepM, callC, argC, nmBy, stepD, stepW, fz, loadA, cellsA, binA, snap, thaw, fzAll, elemOf, partsA, buildA, putCells, ↓reduceIte, reduceCtorEq, okCell, Nat.reduceAdd, Nat.reduceEqDiff, Nat.reduceSub, Nat.reduceMul, Nat.reduceLeDiff, Nat.reduceLT, Nat.reduceBEq]
  refine finA_gen [10] trivial (by simp [retA, rvA, mkE_cons, mk_nil, mkO_cons, mkO_nil, loadA, SV.tr, SV.trL, nmF, rn_nil, rn_cons1, rn_cons2, plainOb, SV.refsL, SV.refs, Ob.refs, X, F, List.range_succ, mkO, setO_mk]; rfl) ?_ ?_ ?_ ?_ ?_ ?_ ?_ <;> simp [retA, rvA, mkE_cons, mk_nil, mkO_cons, mkO_nil, loadA, SV.tr, SV.trL, nmF, rn_nil, rn_cons1, rn_cons2, plainOb, SV.refsL, SV.refs, Ob.refs, X, F, List.range_succ, mkO, setO_mk]
def beP (both : Bool) (c s : List Int) : Bool := decide (1 + mxI (ndI both (yb both c s)) (ndI both (noL c s)) = ndI both c)
def beS (both : Bool) (c : List Int) : List (List Int) := (splL c).filter (beP both c)
theorem yb_okC {both : Bool} {c s : List Int} (hc : okC c = true) (hu : told c = false) (hs : s ∈ splL c) : okC (yb both c s) = true ∧ okC (noL c s) = true := by
  obtain ⟨h1, h2⟩ := sp_okC hc hu hs
  refine ⟨?_, h2⟩
  cases both with
  | true => exact h1
  | false =>
    obtain ⟨⟨l1, l3⟩, h8, hsum⟩ := okC_out hc
    have hk := keyN_bd (p := c.length) rfl h8
    have hdg := dg_key (p := c.length) rfl l3 h8
    have hch := chk_of (okP_O l1 l3) hk.2 (by rw [hdg]; exact hsum) (by rw [hdg]; exact hu)
    rw [hdg] at hch
    have g2 := chk_inn hch hs
    have hsl := spl_len hs
    have hyb : yb false c s = s := rfl
    rw [hyb] at g2 ⊢
    have e1 := pad_sum (c := s) (by omega) (mem_allT.1 g2.1)
    simp only [okC, hsl, e1.1, dec_t e1.2, Bool.and_true]
    rw [dec_t (by omega), dec_t (by omega)]; rfl
theorem beL_nES {Γ2 : Gam} {g : FuncId} {both : Bool} (hr : isRule Γ2 g both) {c : List Int} (hc : okC c = true) (hu : told c = false) : beL Γ2 g (nES both) c = beS both c := by
  simp only [beL, beS]
  apply List.filter_congr
  intro s hs
  obtain ⟨h1, h2⟩ := yb_okC (both := both) hc hu hs
  simp only [beQ, beP, ruleY_is hr, ofE_nES both h1, ofE_nES both h2, ofE_nES both hc]
theorem zsplit {c : List Int} (h8 : in8 c = true) : ∃ s, s ∈ splL c ∧ noL c s = c := by
  refine ⟨List.replicate c.length 0, mem_spl (okSp_all (by simp) fun j hj => ?_), ?_⟩
  · have := in8_get h8 j
    have e : (List.replicate c.length (0 : Int)).getD j 0 = 0 := by
      rw [List.getD_eq_getElem?_getD, List.getElem?_replicate]; split <;> rfl
    rw [e, dec_t (Int.le_refl 0), dec_t this.1]; rfl
  · apply List.ext_getElem
    · rw [noL_len]; simp
    · intro j h1 h2
      have e0 : ∀ i, (List.replicate c.length (0 : Int)).getD i 0 = 0 := fun i => by
        rw [List.getD_eq_getElem?_getD, List.getElem?_replicate]; split <;> rfl
      have hr : ∀ i, i < c.length → (restL c (List.replicate c.length 0)).getD i 0 = c.getD i 0 := fun i hi => by
        rw [restL_get (by simpa using hi), e0]; omega
      have : (noL c (List.replicate c.length 0)).getD j 0 = c.getD j 0 := by
        have hl : (restL c (List.replicate c.length 0)).length = c.length := by rw [restL_len]; simp
        simp only [noL, movL]
        rw [getD_lt (by simp [hl]; exact h2)]
        simp only [List.getElem_map, List.getElem_range, movF]
        by_cases hj : j = 0
        · subst hj; rw [if_pos rfl, hr 0 h2]
        · rw [if_neg hj, hr j h2, e0]; omega
      rw [getD_lt h1, getD_lt h2] at this
      exact this
theorem be_any {Γ2 : Gam} {g : FuncId} {both : Bool} (hr : isRule Γ2 g both) {c : List Int} (hc : okC c = true) (hu : told c = false) : ((splL c).any fun s => !beQ Γ2 g (nES both) c s) = true := by
  obtain ⟨_, h8, _⟩ := okC_out hc
  obtain ⟨s, hs, hn⟩ := zsplit h8
  obtain ⟨h1, h2⟩ := yb_okC (both := both) hc hu hs
  rw [List.any_eq_true]
  refine ⟨s, hs, ?_⟩
  simp only [beQ, ruleY_is hr, ofE_nES both h1, ofE_nES both h2, ofE_nES both hc, hn]
  have : ¬ 1 + mxI (ndI both (yb both c s)) (ndI both c) = ndI both c := by
    simp only [mxI]; split <;> omega
  rw [dec_f this]; rfl
end Go.Proofs.Ytihpfhdkjlphhaa.Pam
