/- A part of the proof that stands in this folder: a small machine whose steps are shown to be the steps of the model, or walks of functions by it. No condition of its own. -/
import Derived.Test.YtihpfhdkjlphhaaGgMR
set_option linter.unusedVariables false
set_option linter.unusedSimpArgs false
namespace Go.Proofs.Ytihpfhdkjlphhaa.Pam
open Go
def a_l1Least : AFn := ⟨2, 
  .seq (.reg [⟨some 4, none, .d (.mv (.c (.int .i64 0)))⟩])
  (.seq (.seq (.reg [⟨some 5, none, .d (.mv (.t 0))⟩,
    ⟨some 6, none, .d (.mv (.t 1))⟩,
    ⟨some 7, none, .d (.bin .arith .lss (.t 5) (.t 6))⟩])
  (.cond (.t 7) (.seq (.reg [⟨some 8, none, .d (.mv (.t 0))⟩,
     ⟨some 4, none, .d (.mv (.t 8))⟩])
   (.ret)) (.skip)))
  (.seq (.reg [⟨some 9, none, .d (.mv (.t 1))⟩,
    ⟨some 4, none, .d (.mv (.t 9))⟩])
  (.ret))), [.tmp 4]⟩
def n_l1Least : Nat → Option Ann := fun _ => none
abbrev k_l1Least : List Nat := [0, 1, 4, 7]
abbrev o_l1Least : List Nat := []
def c_l1Least : Con := pure' fun
  | [.p (.int .i64 a), .p (.int .i64 b)] => if (True) then some (.p (.int .i64 (if a < b then a else b)), []) else none
  | _ => none
theorem s_l1Least {P : Program} (hm : P.follows .mixedOrders = true) {Γ : Gam} (hΓ : GS P Γ) {n : FuncId} (is : Is P n a_l1Least)  : Says P n c_l1Least := by
  refine Says.pure fun args r fs h => ?_
  split at h
  case h_2 => cases h
  rename_i a b
  split at h
  case isFalse => cases h
  rename_i hc
  simp only [ofI_ints, ofBo_bools, ofAs_asks, Option.some.injEq, Prod.mk.injEq] at h hc
  obtain ⟨rfl, rfl⟩ := h
  by_cases h : a < b
  · refine is.go hm hΓ k_l1Least o_l1Least (by simp [a_l1Least]) ?_
    simp only [a_l1Least, h, List.zipIdx_cons, List.zipIdx_nil, ↓SP, SQ, SU, stepM, callC, argC, nmBy, stepD, stepW, fz, loadA, cellsA, binA, snap, thaw, fzAll, elemOf, partsA, buildA, putCells, ↓reduceIte, reduceCtorEq, okCell, Nat.reduceAdd, Nat.reduceEqDiff, Nat.reduceSub, Nat.reduceMul, Nat.reduceLeDiff, Nat.reduceLT, Nat.reduceBEq]
    exact finA_val (by simp [retA, rvA, mkE_cons, mk_nil, mkO_cons, mkO_nil, loadA, SV.tr, SV.trL, nmF, rn_nil, rn_cons1, rn_cons2, plainOb, SV.refsL, SV.refs, Ob.refs, X, F, List.range_succ, mkO, setO_mk]) (by simp [SV.tr, SV.trL])
  · refine is.go hm hΓ k_l1Least o_l1Least (by simp [a_l1Least]) ?_
    simp only [a_l1Least, h, List.zipIdx_cons, List.zipIdx_nil, ↓SP, SQ, SU, stepM, callC, argC, nmBy, stepD, stepW, fz, loadA, cellsA, binA, snap, thaw, fzAll, elemOf, partsA, buildA, putCells, ↓reduceIte, reduceCtorEq, okCell, Nat.reduceAdd, Nat.reduceEqDiff, Nat.reduceSub, Nat.reduceMul, Nat.reduceLeDiff, Nat.reduceLT, Nat.reduceBEq]
    exact finA_val (by simp [retA, rvA, mkE_cons, mk_nil, mkO_cons, mkO_nil, loadA, SV.tr, SV.trL, nmF, rn_nil, rn_cons1, rn_cons2, plainOb, SV.refsL, SV.refs, Ob.refs, X, F, List.range_succ, mkO, setO_mk]) (by simp [SV.tr, SV.trL])
def mnI (a b : Int) : Int := if a < b then a else b
theorem mnI_min (a b : Int) : (if b < a then b else a) = mnI a b := by
  simp only [mnI]
  split <;> split <;> omega
def hdS (c : List Int) : List Int := (beS false c).getD 0 []
structure HD (c : List Int) : Prop where
  mem : hdS c ∈ splL c
  ok1 : okC (hdS c) = true
  ok2 : okC (noL c (hdS c)) = true
  lt1 : ndI false (hdS c) < ndI false c
  lt2 : ndI false (noL c (hdS c)) < ndI false c
  len : 0 < (beS false c).length
  fnd : bsF (tabK (ntT tabO) c.length 6) (ndI false c) c = some (hdS c)
theorem chkO_of {c : List Int} (hc : okC c = true) (hu : told c = false) : chkN false (ntT tabO) c = true := by
  obtain ⟨⟨l1, l3⟩, h8, hsum⟩ := okC_out hc
  have hk := keyN_bd (p := c.length) rfl h8
  have hdg := dg_key (p := c.length) rfl l3 h8
  have hch := chk_of (okP_O l1 l3) hk.2 (by rw [hdg]; exact hsum) (by rw [hdg]; exact hu)
  rwa [hdg] at hch
theorem beP_iff {c s : List Int} (hc : okC c = true) (hu : told c = false) (hs : s ∈ splL c) : boQ (tabK (ntT tabO) c.length 6) (ndI false c) c s = beP false c s := by
  have hch := chkO_of hc hu
  simp only [chkN, Bool.and_eq_true, List.all_eq_true, decide_eq_true_eq] at hch
  have hle := (hch.1 s hs).2
  obtain ⟨h1, h2⟩ := yb_okC (both := false) hc hu hs
  have hyb : yb false c s = s := rfl
  rw [hyb] at h1 hle
  have hsl := spl_len hs
  have e1 := (tab_nd h1).2
  have e2 := (tab_nd h2).2
  rw [hsl] at e1
  rw [noL_len, hsl] at e2
  simp only [boQ, beP, e1, e2, hyb]
  have n1 := (ndI_bd false h1).1
  have n2 := (ndI_bd false h2).1
  have hle2 : ndI false c ≤ 1 + mxI (ndI false s) (ndI false (noL c s)) := by
    have a1 : ndI false c = (ntT tabO (pad3 c) : Int) := rfl
    have a2 : ndI false s = (ntT tabO (pad3 s) : Int) := rfl
    have a3 : ndI false (noL c s) = (ntT tabO (pad3 (noL c s)) : Int) := rfl
    rw [a1, a2, a3]
    simp only [mxI]
    split <;> omega
  rw [dec_t n1, dec_t n2, Bool.eq_iff_iff]
  simp only [Bool.true_and, Bool.and_eq_true, decide_eq_true_eq]
  simp only [mxI] at hle2 ⊢
  constructor
  · rintro ⟨g1, g2⟩
    split at hle2 <;> split <;> omega
  · intro g
    split at g <;> omega
theorem HD.of {c : List Int} (hc : okC c = true) (hu : told c = false) : HD c := by
  have hch := chkO_of hc hu
  simp only [chkN, Bool.and_eq_true, List.all_eq_true, List.any_eq_true, decide_eq_true_eq] at hch
  obtain ⟨hall, s0, hs0, hm0⟩ := hch
  have hyb : ∀ s, yb false c s = s := fun _ => rfl
  have hle0 := (hall s0 hs0).2
  rw [hyb] at hm0 hle0
  have hp0 : beP false c s0 = true := by
    simp only [beP, hyb, decide_eq_true_eq]
    have a1 : ndI false c = (ntT tabO (pad3 c) : Int) := rfl
    have a2 : ndI false s0 = (ntT tabO (pad3 s0) : Int) := rfl
    have a3 : ndI false (noL c s0) = (ntT tabO (pad3 (noL c s0)) : Int) := rfl
    rw [a1, a2, a3]
    simp only [mxI]
    split <;> omega
  have hmem0 : s0 ∈ beS false c := List.mem_filter.2 ⟨hs0, hp0⟩
  have hlen : 0 < (beS false c).length := List.length_pos_of_mem hmem0
  have hhd : hdS c ∈ beS false c := by rw [hdS, getD_lt hlen]; exact List.getElem_mem hlen
  obtain ⟨hm, hp⟩ := List.mem_filter.1 hhd
  obtain ⟨o1, o2⟩ := yb_okC (both := false) hc hu hm
  rw [hyb] at o1
  have hlt : ndI false (hdS c) < ndI false c ∧ ndI false (noL c (hdS c)) < ndI false c := by
    simp only [beP, hyb, decide_eq_true_eq, mxI] at hp
    split at hp <;> omega
  refine ⟨hm, o1, o2, hlt.1, hlt.2, hlen, ?_⟩
  rw [bsF]
  have hfe : (splL c).find? (boQ (tabK (ntT tabO) c.length 6) (ndI false c) c) = (splL c).find? (beP false c) := by
    have key : ∀ L : List (List Int), (∀ s ∈ L, s ∈ splL c) → L.find? (boQ (tabK (ntT tabO) c.length 6) (ndI false c) c) = L.find? (beP false c) := by
      intro L
      induction L with
      | nil => intro _; rfl
      | cons s r ih =>
        intro h
        simp only [List.find?_cons, beP_iff hc hu (h s (by simp)), ih fun t ht => h t (by simp [ht])]
    exact key _ fun _ h => h
  rw [hfe, ← List.head?_filter]
  have hb : (splL c).filter (beP false c) = beS false c := rfl
  rw [hb, hdS]
  cases hL : beS false c with
  | nil => rw [hL] at hlen; simp at hlen
  | cons a r => rfl
def pthF : Nat → List Int → Int × Int
  | 0, _ => (0, 0)
  | f + 1, c => if told c = true then (0, 0) else (1 + mnI (pthF f (hdS c)).1 (pthF f (noL c (hdS c))).1, 1 + mxI (pthF f (hdS c)).2 (pthF f (noL c (hdS c))).2)
theorem pthF_bd : ∀ f c, (0 ≤ (pthF f c).1 ∧ (pthF f c).1 ≤ f) ∧ (0 ≤ (pthF f c).2 ∧ (pthF f c).2 ≤ f)
  | 0, _ => by simp [pthF]
  | f + 1, c => by
    have h1 := pthF_bd f (hdS c)
    have h2 := pthF_bd f (noL c (hdS c))
    simp only [pthF]
    split
    · simp only; omega
    · simp only [mnI, mxI]
      constructor
      · split <;> omega
      · split <;> omega
theorem pthF_succ (f : Nat) (c : List Int) : pthF (f + 1) c = if told c = true then (0, 0) else (1 + mnI (pthF f (hdS c)).1 (pthF f (noL c (hdS c))).1, 1 + mxI (pthF f (hdS c)).2 (pthF f (noL c (hdS c))).2) := rfl
theorem pthF_fuel : ∀ f c, okC c = true → (ndI false c).toNat < f → pthF (f + 1) c = pthF f c
  | 0, _, _, h => absurd h (Nat.not_lt_zero _)
  | f + 1, c, hc, h => by
    rw [pthF_succ (f + 1) c, pthF_succ f c]
    by_cases hu : told c = true
    · rw [if_pos hu, if_pos hu]
    · rw [if_neg hu, if_neg hu]
      have H := HD.of hc (by simpa using hu)
      have n1 := (ndI_bd false H.ok1).1
      have n2 := (ndI_bd false H.ok2).1
      have l1 := H.lt1
      have l2 := H.lt2
      rw [pthF_fuel f _ H.ok1 (by omega), pthF_fuel f _ H.ok2 (by omega)]
def pth (c : List Int) : Int × Int := pthF 11 c
theorem pth_bd (c : List Int) : (0 ≤ (pth c).1 ∧ (pth c).1 ≤ 11) ∧ (0 ≤ (pth c).2 ∧ (pth c).2 ≤ 11) := pthF_bd 11 c
theorem pth_step {c : List Int} (hc : okC c = true) : pth c = if told c = true then (0, 0) else (1 + mnI (pth (hdS c)).1 (pth (noL c (hdS c))).1, 1 + mxI (pth (hdS c)).2 (pth (noL c (hdS c))).2) := by
  have hb := (ndI_bd false hc)
  rw [pth, ← pthF_fuel 11 c hc (by omega), pthF]; rfl
theorem mn_bd {a b : Int} (h1 : 0 ≤ a ∧ a ≤ 11) (h2 : 0 ≤ b ∧ b ≤ 11) : IntKind.i64.wrap (1 + mnI a b) = 1 + mnI a b := by
  refine wrap64 ?_ ?_ <;> (simp only [mnI]; split <;> omega)
theorem mx_bd {a b : Int} (h1 : 0 ≤ a ∧ a ≤ 11) (h2 : 0 ≤ b ∧ b ≤ 11) : IntKind.i64.wrap (1 + mxI a b) = 1 + mxI a b := by
  refine wrap64 ?_ ?_ <;> (simp only [mxI]; split <;> omega)
def a_nPaths (f_isTold : FuncId) (f_nBest : FuncId) (f_nPaths : FuncId) : AFn := ⟨2, 
  .seq (.reg [⟨some 2, none, .w (.box 2 (.t 0))⟩,
    ⟨some 4, none, .d (.mv (.c (.int .i64 0)))⟩,
    ⟨some 5, none, .d (.mv (.c (.int .i64 0)))⟩])
  (.seq (.seq (.reg [⟨some 12, none, .d (.mv (.t 1))⟩,
    ⟨some 13, none, .d (.call (.f f_isTold) [(.t 12)])⟩])
  (.cond (.t 13) (.seq (.reg [⟨some 4, none, .d (.mv (.c (.int .i64 0)))⟩,
     ⟨some 5, none, .d (.mv (.c (.int .i64 0)))⟩])
   (.ret)) (.skip)))
  (.seq (.dreg [] [([], ⟨some 15, none, .d (.fa 0 (.t 2))⟩),
    ([], ⟨some 16, none, .d (.load false 1 (.t 15))⟩),
    ([], ⟨some 17, none, .d (.mv (.t 1))⟩),
    ([], ⟨some 18, none, .d (.load true 2 (.t 2))⟩),
    ([], ⟨some 19, none, .d (.mv (.t 1))⟩),
    ([], ⟨some 20, none, .d (.call (.f f_nBest) [(.t 18), (.t 19)])⟩),
    ([], ⟨some 21, none, .d (.ia 1 (.t 20) (.c (.int .i64 0)))⟩),
    ([], ⟨some 22, none, .d (.load false 1 (.t 21))⟩),
    ([], ⟨some 23, none, .d (.call (.t 16) [(.t 17), (.t 22)])⟩),
    ([], ⟨some 14, none, .d (.mv (.t 23))⟩),
    ([], ⟨some 24, none, .d (.extract (.t 14) 0)⟩),
    ([], ⟨some 25, none, .d (.extract (.t 14) 1)⟩),
    ([], ⟨some 6, none, .d (.mv (.t 24))⟩)] [⟨some 7, none, .d (.mv (.t 25))⟩])
  (.seq (.reg [⟨some 27, none, .d (.load true 2 (.t 2))⟩,
    ⟨some 28, none, .d (.mv (.t 6))⟩,
    ⟨some 29, none, .d (.call (.f f_nPaths) [(.t 27), (.t 28)])⟩,
    ⟨some 26, none, .d (.mv (.t 29))⟩,
    ⟨some 30, none, .d (.extract (.t 26) 0)⟩,
    ⟨some 31, none, .d (.extract (.t 26) 1)⟩,
    ⟨some 8, none, .d (.mv (.t 30))⟩,
    ⟨some 9, none, .d (.mv (.t 31))⟩])
  (.seq (.reg [⟨some 33, none, .d (.load true 2 (.t 2))⟩,
    ⟨some 34, none, .d (.mv (.t 7))⟩,
    ⟨some 35, none, .d (.call (.f f_nPaths) [(.t 33), (.t 34)])⟩,
    ⟨some 32, none, .d (.mv (.t 35))⟩,
    ⟨some 36, none, .d (.extract (.t 32) 0)⟩,
    ⟨some 37, none, .d (.extract (.t 32) 1)⟩,
    ⟨some 10, none, .d (.mv (.t 36))⟩,
    ⟨some 11, none, .d (.mv (.t 37))⟩])
  (.seq (.reg [⟨some 38, none, .d (.mv (.t 8))⟩,
    ⟨some 39, none, .d (.mv (.t 10))⟩,
    ⟨some 40, none, .d (.min2 (.t 38) (.t 39))⟩,
    ⟨some 41, none, .d (.bin .arith .add (.c (.int .i64 1)) (.t 40))⟩,
    ⟨some 42, none, .d (.mv (.t 9))⟩,
    ⟨some 43, none, .d (.mv (.t 11))⟩,
    ⟨some 44, none, .d (.max2 (.t 42) (.t 43))⟩,
    ⟨some 45, none, .d (.bin .arith .add (.c (.int .i64 1)) (.t 44))⟩,
    ⟨some 4, none, .d (.mv (.t 41))⟩,
    ⟨some 5, none, .d (.mv (.t 45))⟩])
  (.ret)))))), [.tmp 4, .tmp 5]⟩
def n_nPaths : Nat → Option Ann := fun _ => none
abbrev k_nPaths : List Nat := [0, 1, 2, 4, 5, 6, 7, 8, 9, 10, 11, 13]
abbrev o_nPaths : List Nat := [2]
def a_l10Paths (f_l4Told : FuncId) (f_l4Key : FuncId) (f_l10Best : FuncId) (f_l10Paths : FuncId) (f_l4No : FuncId) (f_l1Least : FuncId) (f_l1Most : FuncId) : AFn := ⟨2, 
  .seq (.reg [⟨some 4, none, .d (.mv (.c (.int .i64 0)))⟩,
    ⟨some 5, none, .d (.mv (.c (.int .i64 0)))⟩])
  (.seq (.seq (.reg [⟨some 11, none, .d (.mv (.t 0))⟩,
    ⟨some 12, none, .d (.call (.f f_l4Told) [(.t 11)])⟩])
  (.cond (.t 12) (.seq (.reg [⟨some 4, none, .d (.mv (.c (.int .i64 0)))⟩,
     ⟨some 5, none, .d (.mv (.c (.int .i64 0)))⟩])
   (.ret)) (.skip)))
  (.seq (.reg [⟨some 13, none, .d (.mv (.t 0))⟩,
    ⟨some 14, none, .d (.mv (.t 1))⟩,
    ⟨some 15, none, .d (.mv (.t 1))⟩,
    ⟨some 16, none, .d (.mv (.t 0))⟩,
    ⟨some 17, none, .d (.call (.f f_l4Key) [(.t 16)])⟩,
    ⟨some 18, none, .d (.ia 1 (.t 15) (.t 17))⟩,
    ⟨some 19, none, .d (.load false 1 (.t 18))⟩,
    ⟨some 20, none, .d (.call (.f f_l10Best) [(.t 13), (.t 14), (.t 19)])⟩,
    ⟨some 6, none, .d (.mv (.t 20))⟩])
  (.seq (.reg [⟨some 22, none, .d (.mv (.t 6))⟩,
    ⟨some 23, none, .d (.mv (.t 1))⟩,
    ⟨some 24, none, .d (.call (.f f_l10Paths) [(.t 22), (.t 23)])⟩,
    ⟨some 21, none, .d (.mv (.t 24))⟩,
    ⟨some 25, none, .d (.extract (.t 21) 0)⟩,
    ⟨some 26, none, .d (.extract (.t 21) 1)⟩,
    ⟨some 7, none, .d (.mv (.t 25))⟩,
    ⟨some 8, none, .d (.mv (.t 26))⟩])
  (.seq (.reg [⟨some 28, none, .d (.mv (.t 0))⟩,
    ⟨some 29, none, .d (.mv (.t 6))⟩,
    ⟨some 30, none, .d (.call (.f f_l4No) [(.t 28), (.t 29)])⟩,
    ⟨some 31, none, .d (.mv (.t 1))⟩,
    ⟨some 32, none, .d (.call (.f f_l10Paths) [(.t 30), (.t 31)])⟩,
    ⟨some 27, none, .d (.mv (.t 32))⟩,
    ⟨some 33, none, .d (.extract (.t 27) 0)⟩,
    ⟨some 34, none, .d (.extract (.t 27) 1)⟩,
    ⟨some 9, none, .d (.mv (.t 33))⟩,
    ⟨some 10, none, .d (.mv (.t 34))⟩])
  (.seq (.reg [⟨some 35, none, .d (.mv (.t 7))⟩,
    ⟨some 36, none, .d (.mv (.t 9))⟩,
    ⟨some 37, none, .d (.call (.f f_l1Least) [(.t 35), (.t 36)])⟩,
    ⟨some 38, none, .d (.bin .arith .add (.c (.int .i64 1)) (.t 37))⟩,
    ⟨some 39, none, .d (.mv (.t 8))⟩,
    ⟨some 40, none, .d (.mv (.t 10))⟩,
    ⟨some 41, none, .d (.call (.f f_l1Most) [(.t 39), (.t 40)])⟩,
    ⟨some 42, none, .d (.bin .arith .add (.c (.int .i64 1)) (.t 41))⟩,
    ⟨some 4, none, .d (.mv (.t 38))⟩,
    ⟨some 5, none, .d (.mv (.t 42))⟩])
  (.ret)))))), [.tmp 4, .tmp 5]⟩
def n_l10Paths : Nat → Option Ann := fun _ => none
abbrev k_l10Paths : List Nat := [0, 1, 4, 5, 6, 7, 8, 9, 10, 12]
abbrev o_l10Paths : List Nat := []
open Classical in
noncomputable def c_nPaths (Γ2 Γ1 : Gam) : Con := pure' fun
  | [.p (.agg [.fn g [] [], .mapv es]), .p (.sl 1 c_)] => if Γ2 g = c_oneWay ∧ Γ1 g = c_oneWay ∧ es = nES false ∧ isI c_ = true ∧ okC (ofI c_) = true then some (.tp [.p (.int .i64 (pth (ofI c_)).1), .p (.int .i64 (pth (ofI c_)).2)], []) else none
  | _ => none
def muP : List SV → List Ob → Nat := fun args _ => match args with
  | [_, .p (.sl _ c_)] => (ndI false (ofI c_)).toNat
  | _ => 0
theorem nPaths_walk {P : Program} (hm : P.follows .mixedOrders = true) {Γ Γ1 Γ2 : Gam} (hΓ : GS P Γ) {n f_isTold f_nBest f_nPaths : FuncId} {k : Nat} (is : Is P n (a_nPaths f_isTold f_nBest f_nPaths)) (h_isTold : Γ f_isTold = c_isTold) (h_nBest : Γ f_nBest = c_nBest Γ2) (h_nPaths : Γ f_nPaths = lim muP k (c_nPaths Γ2 Γ1)) (hsame : ∀ g, Γ1 g = c_oneWay → Γ g = c_oneWay) : ∀ args ext r ext' fs, c_nPaths Γ2 Γ1 args ext = some (r, ext', fs) → muP args ext ≤ k → PC P n args ext r ext' fs := by
  intro args ext r ext' fs h hmu
  unfold c_nPaths pure' at h
  split at h
  case h_2 => cases h
  rename_i ext
  simp only [Option.map_eq_some_iff, Prod.mk.injEq] at h
  obtain ⟨⟨r0, fs0⟩, h, rfl, rfl, rfl⟩ := h
  split at h
  case h_2 => cases h
  rename_i g es c_
  split at h
  case isFalse => cases h
  rename_i hc
  obtain ⟨hg2, hg1, rfl, hc_, hok⟩ := hc
  obtain ⟨c, rfl⟩ := isI_out hc_
  simp only [ofI_ints, Option.some.injEq, Prod.mk.injEq, muP] at h hok hmu
  obtain ⟨rfl, rfl⟩ := h
  have hg := hsame g hg1
  have hst := pth_step hok
  obtain ⟨⟨l1, l3⟩, h8, _⟩ := okC_out hok
  have hcl : c.length ≤ 1100000 := by omega
  cases hu : told c with
  | true =>
    rw [hu] at hst
    simp only [if_true] at hst
    rw [hst]
    refine is.go hm hΓ k_nPaths o_nPaths (by simp [a_nPaths]) ?_
    simp only [a_nPaths, h_isTold, c_isTold, h_nPaths, hu, hcl, l1, l3, h8, hok, isI_ints, ofI_ints, ints_len, List.zipIdx_cons, List.zipIdx_nil, ↓SP, SQ, SU, stepM, callC, argC, nmBy, stepD, stepW, fz, loadA, cellsA, binA, snap, thaw, fzAll, elemOf, partsA, buildA, putCells, ↓reduceIte, reduceCtorEq, okCell, Nat.reduceAdd, Nat.reduceEqDiff, Nat.reduceSub, Nat.reduceMul, Nat.reduceLeDiff, Nat.reduceLT, Nat.reduceBEq]
    exact finA_val (by simp [retA, rvA, mkE_cons, mk_nil, mkO_cons, mkO_nil, loadA, SV.tr, SV.trL, nmF, rn_nil, rn_cons1, rn_cons2, plainOb, SV.refsL, SV.refs, Ob.refs, X, F, List.range_succ, mkO, setO_mk]) (by simp [SV.tr, SV.trL])
  | false =>
    rw [hu] at hst
    simp only [Bool.false_eq_true, if_false] at hst
    rw [hst]
    have H := HD.of hok hu
    have hE := okE_nES false
    have hr : isRule Γ2 g false := by simpa [isRule] using hg2
    have hbl := beL_nES hr hok hu
    have hba := be_any hr hok hu
    have htk := sls_app_take (beS false c) (List.replicate ((splL c).length - (beS false c).length) .nilsl)
    have hlen := H.len
    have hgt := sls_get (L := beS false c) (i := 0) hlen
    have hhd : (beS false c).getD 0 [] = hdS c := rfl
    rw [hhd] at hgt
    have hsl := spl_len H.mem
    have hsl' : (hdS c).length ≤ 1100000 := by omega
    have hbc : bd 1000 c = true := bd_in8 h8 (by omega)
    have hs8 := spl_in8 h8 H.mem
    have hbs : bd 1000 (hdS c) = true := bd_in8 hs8 (by omega)
    have n1 := (ndI_bd false H.ok1).1
    have n2 := (ndI_bd false H.ok2).1
    have m1 : (ndI false (hdS c)).toNat < k := by have := H.lt1; omega
    have m2 : (ndI false (noL c (hdS c))).toNat < k := by have := H.lt2; omega
    have hok1 := H.ok1
    have hok2 := H.ok2
    have w1 := mn_bd (pth_bd (hdS c)).1 (pth_bd (noL c (hdS c))).1
    have w2 := mx_bd (pth_bd (hdS c)).2 (pth_bd (noL c (hdS c))).2
    refine is.go hm hΓ k_nPaths o_nPaths (by simp [a_nPaths]) ?_
    simp only [a_nPaths, h_isTold, c_isTold, h_nPaths, hu, hcl, l1, l3, h8, hok, hok1, hok2, hE, hbl, hba, htk, hlen, hgt, hg, c_oneWay, hg1, hg2, hsl, hsl', hbc, hbs, lim, muP, m1, m2, w1, w2, mnI_min, mxI_max, h_nBest, c_nBest, c_nPaths, or_true, Nat.sub_zero, List.drop_zero, Int.le_refl, Int.toNat_zero, sls_len, isI_ints, ofI_ints, ints_len, List.zipIdx_cons, List.zipIdx_nil, ↓SP, SQ, SU, stepM, callC, argC, nmBy, stepD, stepW, fz, loadA, cellsA, binA, snap, thaw, fzAll, elemOf, partsA, buildA, putCells, ↓reduceIte, reduceCtorEq, okCell, Nat.reduceAdd, Nat.reduceEqDiff, Nat.reduceSub, Nat.reduceMul, Nat.reduceLeDiff, Nat.reduceLT, Nat.reduceBEq]
    exact finA_val (by simp [retA, rvA, mkE_cons, mk_nil, mkO_cons, mkO_nil, loadA, SV.tr, SV.trL, nmF, rn_nil, rn_cons1, rn_cons2, plainOb, SV.refsL, SV.refs, Ob.refs, X, F, List.range_succ, mkO, setO_mk]) (by simp [SV.tr, SV.trL])
def v1 : List SV := [.p (.sl 1 (ints [0])), .p (.sl 1 (ints [0]))]
theorem v1_one : c_oneWay v1 [] ≠ none := by simp [v1, c_oneWay, pure', isI_ints, ofI_ints, bd]
theorem s_nPaths {P : Program} (hm : P.follows .mixedOrders = true) {Γ Γ2 : Gam} (hΓ : GS P Γ) {n f_isTold f_nBest : FuncId} (is : Is P n (a_nPaths f_isTold f_nBest n)) (hne : f_isTold ≠ n ∧ f_nBest ≠ n) (h_isTold : Γ f_isTold = c_isTold) (h_nBest : Γ f_nBest = c_nBest Γ2) (h_none : Γ n v1 [] = none) : Says P n (c_nPaths Γ2 Γ) := by
  refine Says.rec hΓ muP fun k hk args ext r ext' fs h hmu => ?_
  refine nPaths_walk (k := k) (Γ1 := Γ) (Γ2 := Γ2) hm hk is (by simp [Gam.addX, hne.1, h_isTold]) (by simp [Gam.addX, hne.2, h_nBest]) (by simp [Gam.addX]) (fun g hg => ?_) args ext r ext' fs h (by omega)
  by_cases hgn : g = n
  · exfalso
    rw [hgn] at hg
    rw [hg] at h_none
    exact v1_one h_none
  · simp [Gam.addX, hgn, hg]
def c_l10Paths : Con := pure' fun
  | [.p (.sl 1 c_), .p (.sl 1 t_)] => if isI c_ = true ∧ isI t_ = true ∧ okC (ofI c_) = true ∧ ofI t_ = tabK (ntT tabO) (ofI c_).length 6 then some (.tp [.p (.int .i64 (pth (ofI c_)).1), .p (.int .i64 (pth (ofI c_)).2)], []) else none
  | _ => none
def muQ : List SV → List Ob → Nat := fun args _ => match args with
  | [.p (.sl _ c_), _] => (ndI false (ofI c_)).toNat
  | _ => 0
theorem l10Paths_walk {P : Program} (hm : P.follows .mixedOrders = true) {Γ : Gam} (hΓ : GS P Γ) {n f_l4Told f_l4Key f_l10Best f_l10Paths f_l4No f_l1Least f_l1Most : FuncId} {k : Nat} (is : Is P n (a_l10Paths f_l4Told f_l4Key f_l10Best f_l10Paths f_l4No f_l1Least f_l1Most)) (h_l4Told : Γ f_l4Told = c_isTold) (h_l4Key : Γ f_l4Key = c_l4Key) (h_l10Best : Γ f_l10Best = c_l10Best) (h_l4No : Γ f_l4No = c_l4No) (h_l1Least : Γ f_l1Least = c_l1Least) (h_l1Most : Γ f_l1Most = c_l1Most) (h_l10Paths : Γ f_l10Paths = lim muQ k c_l10Paths) : ∀ args ext r ext' fs, c_l10Paths args ext = some (r, ext', fs) → muQ args ext ≤ k → PC P n args ext r ext' fs := by
  intro args ext r ext' fs h hmu
  unfold c_l10Paths pure' at h
  split at h
  case h_2 => cases h
  rename_i ext
  simp only [Option.map_eq_some_iff, Prod.mk.injEq] at h
  obtain ⟨⟨r0, fs0⟩, h, rfl, rfl, rfl⟩ := h
  split at h
  case h_2 => cases h
  rename_i c_ t_
  split at h
  case isFalse => cases h
  rename_i hc
  obtain ⟨hc_, ht_, hok, htb⟩ := hc
  obtain ⟨c, rfl⟩ := isI_out hc_
  obtain ⟨t, rfl⟩ := isI_out ht_
  simp only [ofI_ints, Option.some.injEq, Prod.mk.injEq, muQ] at h hok hmu htb
  obtain ⟨rfl, rfl⟩ := h
  subst htb
  have hst := pth_step hok
  obtain ⟨⟨l1, l3⟩, h8, _⟩ := okC_out hok
  have hcl : c.length ≤ 1100000 := by omega
  refine is.go hm hΓ k_l10Paths o_l10Paths (by simp [a_l10Paths]) ?_
  cases hu : told c with
  | true =>
    rw [hu] at hst
    simp only [if_true] at hst
    rw [hst]
    simp only [a_l10Paths, h_l4Told, c_isTold, hu, hcl, l1, l3, h8, hok, isI_ints, ofI_ints, ints_len, List.zipIdx_cons, List.zipIdx_nil, ↓SP, SQ, SU, stepM, callC, argC, nmBy, stepD, stepW, fz, loadA, cellsA, binA, snap, thaw, fzAll, elemOf, partsA, buildA, putCells, ↓reduceIte, reduceCtorEq, okCell, Nat.reduceAdd, Nat.reduceEqDiff, Nat.reduceSub, Nat.reduceMul, Nat.reduceLeDiff, Nat.reduceLT, Nat.reduceBEq]
    exact finA_val (by simp [retA, rvA, mkE_cons, mk_nil, mkO_cons, mkO_nil, loadA, SV.tr, SV.trL, nmF, rn_nil, rn_cons1, rn_cons2, plainOb, SV.refsL, SV.refs, Ob.refs, X, F, List.range_succ, mkO, setO_mk]) (by simp [SV.tr, SV.trL])
  | false =>
    rw [hu] at hst
    simp only [Bool.false_eq_true, if_false] at hst
    rw [hst]
    have H := HD.of hok hu
    have hokw := okw_of hok hu
    have htl := tabK_len (ntT tabO) c.length 6
    obtain ⟨k0, k1⟩ := keyN_bd (p := c.length) rfl h8
    have hkk : (keyL c).toNat = keyN c := rfl
    have hg := ints_get (l := tabK (ntT tabO) c.length 6) (i := keyN c) (by rw [tabK_len]; exact k1)
    rw [(tab_nd hok).2] at hg
    have hfnd := H.fnd
    have hsl := spl_len H.mem
    have hsl' : (hdS c).length ≤ 1100000 := by omega
    have hbc : bd 1000 c = true := bd_in8 h8 (by omega)
    have hbc4 : bd 10000 c = true := bd_in8 h8 (by omega)
    have hs8 := spl_in8 h8 H.mem
    have hbs : bd 1000 (hdS c) = true := bd_in8 hs8 (by omega)
    have hbs4 : bd 10000 (hdS c) = true := bd_in8 hs8 (by omega)
    have n1 := (ndI_bd false H.ok1).1
    have n2 := (ndI_bd false H.ok2).1
    have m1 : (ndI false (hdS c)).toNat < k := by have := H.lt1; omega
    have m2 : (ndI false (noL c (hdS c))).toNat < k := by have := H.lt2; omega
    have hok1 := H.ok1
    have hok2 := H.ok2
    have hnl : (noL c (hdS c)).length = c.length := by rw [noL_len, hsl]
    have w1 := mn_bd (pth_bd (hdS c)).1 (pth_bd (noL c (hdS c))).1
    have w2 := mx_bd (pth_bd (hdS c)).2 (pth_bd (noL c (hdS c))).2
    have e1 : ∀ a b : Int, (if a < b then a else b) = mnI a b := fun _ _ => rfl
    have e2 : ∀ a b : Int, (if a > b then a else b) = mxI a b := fun _ _ => rfl
    simp only [a_l10Paths, h_l4Told, c_isTold, h_l4Key, c_l4Key, h_l10Best, c_l10Best, h_l4No, c_l4No, h_l1Least, c_l1Least, h_l1Most, c_l1Most, h_l10Paths, c_l10Paths, lim, muQ, hu, hcl, l1, l3, h8, hok, hok1, hok2, hokw, htl, k0, hkk, hg, hfnd, hsl, hsl', hbc, hbc4, hbs, hbs4, m1, m2, hnl, w1, w2, e1, e2, isI_ints, ofI_ints, ints_len, List.zipIdx_cons, List.zipIdx_nil, ↓SP, SQ, SU, stepM, callC, argC, nmBy, stepD, stepW, fz, loadA, cellsA, binA, snap, thaw, fzAll, elemOf, partsA, buildA, putCells, ↓reduceIte, reduceCtorEq, okCell, Nat.reduceAdd, Nat.reduceEqDiff, Nat.reduceSub, Nat.reduceMul, Nat.reduceLeDiff, Nat.reduceLT, Nat.reduceBEq]
    exact finA_val (by simp [retA, rvA, mkE_cons, mk_nil, mkO_cons, mkO_nil, loadA, SV.tr, SV.trL, nmF, rn_nil, rn_cons1, rn_cons2, plainOb, SV.refsL, SV.refs, Ob.refs, X, F, List.range_succ, mkO, setO_mk]) (by simp [SV.tr, SV.trL])
theorem s_l10Paths {P : Program} (hm : P.follows .mixedOrders = true) {Γ : Gam} (hΓ : GS P Γ) {n f_l4Told f_l4Key f_l10Best f_l4No f_l1Least f_l1Most : FuncId} (is : Is P n (a_l10Paths f_l4Told f_l4Key f_l10Best n f_l4No f_l1Least f_l1Most)) (hne : f_l4Told ≠ n ∧ f_l4Key ≠ n ∧ f_l10Best ≠ n ∧ f_l4No ≠ n ∧ f_l1Least ≠ n ∧ f_l1Most ≠ n) (h_l4Told : Γ f_l4Told = c_isTold) (h_l4Key : Γ f_l4Key = c_l4Key) (h_l10Best : Γ f_l10Best = c_l10Best) (h_l4No : Γ f_l4No = c_l4No) (h_l1Least : Γ f_l1Least = c_l1Least) (h_l1Most : Γ f_l1Most = c_l1Most) : Says P n c_l10Paths := by
  refine Says.rec hΓ muQ fun k hk args ext r ext' fs h hmu => ?_
  obtain ⟨n1, n2, n3, n4, n5, n6⟩ := hne
  exact l10Paths_walk (k := k) hm hk is (by simp [Gam.addX, n1, h_l4Told]) (by simp [Gam.addX, n2, h_l4Key]) (by simp [Gam.addX, n3, h_l10Best]) (by simp [Gam.addX, n4, h_l4No]) (by simp [Gam.addX, n5, h_l1Least]) (by simp [Gam.addX, n6, h_l1Most]) (by simp [Gam.addX]) args ext r ext' fs h (by omega)
def a_OneWayPaths (f_AreCounts : FuncId) (f_neederOf : FuncId) (f_oneWay : FuncId) (f_nPaths : FuncId) : AFn := ⟨1, 
  .seq (.reg [⟨some 2, none, .d (.mv (.c (.int .i64 0)))⟩,
    ⟨some 3, none, .d (.mv (.c (.int .i64 0)))⟩,
    ⟨some 4, none, .d (.mv (.c (.bool false)))⟩])
  (.seq (.seq (.reg [⟨some 7, none, .d (.mv (.t 0))⟩,
    ⟨some 8, none, .d (.call (.f f_AreCounts) [(.t 7)])⟩,
    ⟨some 9, none, .d (.not (.t 8))⟩])
  (.cond (.t 9) (.seq (.reg [⟨some 2, none, .d (.mv (.c (.int .i64 0)))⟩,
     ⟨some 3, none, .d (.mv (.c (.int .i64 0)))⟩,
     ⟨some 4, none, .d (.mv (.c (.bool false)))⟩])
   (.ret)) (.skip)))
  (.seq (.reg [⟨some 11, none, .d (.call (.f f_neederOf) [(.f f_oneWay)])⟩,
    ⟨some 12, none, .d (.mv (.t 0))⟩,
    ⟨some 13, none, .d (.call (.f f_nPaths) [(.t 11), (.t 12)])⟩,
    ⟨some 10, none, .d (.mv (.t 13))⟩,
    ⟨some 14, none, .d (.extract (.t 10) 0)⟩,
    ⟨some 15, none, .d (.extract (.t 10) 1)⟩,
    ⟨some 5, none, .d (.mv (.t 14))⟩,
    ⟨some 6, none, .d (.mv (.t 15))⟩])
  (.seq (.reg [⟨some 16, none, .d (.mv (.t 5))⟩,
    ⟨some 17, none, .d (.mv (.t 6))⟩,
    ⟨some 2, none, .d (.mv (.t 16))⟩,
    ⟨some 3, none, .d (.mv (.t 17))⟩,
    ⟨some 4, none, .d (.mv (.c (.bool true)))⟩])
  (.ret)))), [.tmp 2, .tmp 3, .tmp 4]⟩
def n_OneWayPaths : Nat → Option Ann := fun _ => none
abbrev k_OneWayPaths : List Nat := [0, 2, 3, 4, 5, 6, 9]
abbrev o_OneWayPaths : List Nat := []
def a_s_OneWayPaths (f_l4Counts : FuncId) (f_l10Needs : FuncId) (f_l10Paths : FuncId) : AFn := ⟨1, 
  .seq (.reg [⟨some 2, none, .d (.mv (.c (.int .i64 0)))⟩,
    ⟨some 3, none, .d (.mv (.c (.int .i64 0)))⟩,
    ⟨some 4, none, .d (.mv (.c (.bool false)))⟩])
  (.seq (.seq (.reg [⟨some 7, none, .d (.mv (.t 0))⟩,
    ⟨some 8, none, .d (.call (.f f_l4Counts) [(.t 7)])⟩,
    ⟨some 9, none, .d (.not (.t 8))⟩])
  (.cond (.t 9) (.seq (.reg [⟨some 2, none, .d (.mv (.c (.int .i64 0)))⟩,
     ⟨some 3, none, .d (.mv (.c (.int .i64 0)))⟩,
     ⟨some 4, none, .d (.mv (.c (.bool false)))⟩])
   (.ret)) (.skip)))
  (.seq (.reg [⟨some 11, none, .d (.mv (.t 0))⟩,
    ⟨some 12, none, .d (.mv (.t 0))⟩,
    ⟨some 13, none, .d (.len (.t 12))⟩,
    ⟨some 14, none, .d (.call (.f f_l10Needs) [(.t 13)])⟩,
    ⟨some 15, none, .d (.call (.f f_l10Paths) [(.t 11), (.t 14)])⟩,
    ⟨some 10, none, .d (.mv (.t 15))⟩,
    ⟨some 16, none, .d (.extract (.t 10) 0)⟩,
    ⟨some 17, none, .d (.extract (.t 10) 1)⟩,
    ⟨some 5, none, .d (.mv (.t 16))⟩,
    ⟨some 6, none, .d (.mv (.t 17))⟩])
  (.seq (.reg [⟨some 18, none, .d (.mv (.t 5))⟩,
    ⟨some 19, none, .d (.mv (.t 6))⟩,
    ⟨some 2, none, .d (.mv (.t 18))⟩,
    ⟨some 3, none, .d (.mv (.t 19))⟩,
    ⟨some 4, none, .d (.mv (.c (.bool true)))⟩])
  (.ret)))), [.tmp 2, .tmp 3, .tmp 4]⟩
def n_s_OneWayPaths : Nat → Option Ann := fun _ => none
abbrev k_s_OneWayPaths : List Nat := [0, 2, 3, 4, 5, 6, 9]
abbrev o_s_OneWayPaths : List Nat := []
def c_OneWayPaths : Con := pure' fun
  | [.p (.sl 1 c_)] => if isI c_ = true ∧ ((ofI c_).length ≤ 1100000) then some (.tp [.p (.int .i64 (if okC (ofI c_) = true then (pth (ofI c_)).1 else 0)), .p (.int .i64 (if okC (ofI c_) = true then (pth (ofI c_)).2 else 0)), .p (.bool (okC (ofI c_)))], []) else none
  | _ => none
theorem s_OneWayPaths {P : Program} (hm : P.follows .mixedOrders = true) {Γ : Gam} (hΓ : GS P Γ) {n : FuncId} {f_AreCounts : FuncId} {f_neederOf : FuncId} {f_oneWay : FuncId} {f_nPaths : FuncId} (is : Is P n (a_OneWayPaths f_AreCounts f_neederOf f_oneWay f_nPaths)) (h_AreCounts : Γ f_AreCounts = c_AreCounts) {Γ1 Γ2 Γ3 : Gam} (h_neederOf : Γ f_neederOf = c_neederOf Γ1) (h_oneWay : Γ1 f_oneWay = c_oneWay) (h_nPaths : Γ f_nPaths = c_nPaths Γ2 Γ3) (h_oneWay2 : Γ2 f_oneWay = c_oneWay) (h_oneWay3 : Γ3 f_oneWay = c_oneWay) : Says P n c_OneWayPaths := by
  refine Says.pure fun args r fs h => ?_
  split at h
  case h_2 => cases h
  rename_i c_
  split at h
  case isFalse => cases h
  rename_i hc
  obtain ⟨hc_, hc⟩ := hc
  obtain ⟨c, rfl⟩ := isI_out hc_
  simp only [ofI_ints, ofBo_bools, ofAs_asks, Option.some.injEq, Prod.mk.injEq] at h hc
  obtain ⟨rfl, rfl⟩ := h
  cases h1 : okC c with
  | false =>
    refine is.go hm hΓ k_OneWayPaths o_OneWayPaths (by simp [a_OneWayPaths]) ?_
    simp only [a_OneWayPaths, h_AreCounts, c_AreCounts, hc, h1, Bool.false_eq_true, List.zipIdx_cons, List.zipIdx_nil, ↓SP, SQ, SU, stepM, callC, argC, nmBy, stepD, stepW, fz, loadA, cellsA, binA, snap, thaw, fzAll, elemOf, partsA, buildA, putCells, ↓reduceIte, reduceCtorEq, okCell, Nat.reduceAdd, Nat.reduceEqDiff, Nat.reduceSub, Nat.reduceMul, Nat.reduceLeDiff, Nat.reduceLT, Nat.reduceBEq]
    exact finA_val (by simp [retA, rvA, mkE_cons, mk_nil, mkO_cons, mkO_nil, loadA, SV.tr, SV.trL, nmF, rn_nil, rn_cons1, rn_cons2, plainOb, SV.refsL, SV.refs, Ob.refs, X, F, List.range_succ, mkO, setO_mk]) (by simp [SV.tr, SV.trL])
  | true =>
    have hne := neederOf_one h_oneWay
    refine is.go hm hΓ k_OneWayPaths o_OneWayPaths (by simp [a_OneWayPaths]) ?_
    simp only [a_OneWayPaths, h_AreCounts, c_AreCounts, hc, h1, h_neederOf, hne, h_nPaths, c_nPaths, h_oneWay2, h_oneWay3, isI_ints, ofI_ints, ints_len, List.zipIdx_cons, List.zipIdx_nil, ↓SP, SQ, SU, stepM, callC, argC, nmBy, stepD, stepW, fz, loadA, cellsA, binA, snap, thaw, fzAll, elemOf, partsA, buildA, putCells, ↓reduceIte, reduceCtorEq, okCell, Nat.reduceAdd, Nat.reduceEqDiff, Nat.reduceSub, Nat.reduceMul, Nat.reduceLeDiff, Nat.reduceLT, Nat.reduceBEq]
    exact finA_val (by simp [retA, rvA, mkE_cons, mk_nil, mkO_cons, mkO_nil, loadA, SV.tr, SV.trL, nmF, rn_nil, rn_cons1, rn_cons2, plainOb, SV.refsL, SV.refs, Ob.refs, X, F, List.range_succ, mkO, setO_mk]) (by simp [SV.tr, SV.trL])
theorem s_s_OneWayPaths {P : Program} (hm : P.follows .mixedOrders = true) {Γ : Gam} (hΓ : GS P Γ) {n : FuncId} {f_l4Counts : FuncId} {f_l10Needs : FuncId} {f_l10Paths : FuncId} (is : Is P n (a_s_OneWayPaths f_l4Counts f_l10Needs f_l10Paths)) (h_l4Counts : Γ f_l4Counts = c_AreCounts) (h_l10Needs : Γ f_l10Needs = c_l10Needs) (h_l10Paths : Γ f_l10Paths = c_l10Paths)  : Says P n c_OneWayPaths := by
  refine Says.pure fun args r fs h => ?_
  split at h
  case h_2 => cases h
  rename_i c_
  split at h
  case isFalse => cases h
  rename_i hc
  obtain ⟨hc_, hc⟩ := hc
  obtain ⟨c, rfl⟩ := isI_out hc_
  simp only [ofI_ints, ofBo_bools, ofAs_asks, Option.some.injEq, Prod.mk.injEq] at h hc
  obtain ⟨rfl, rfl⟩ := h
  cases h1 : okC c with
  | false =>
    refine is.go hm hΓ k_s_OneWayPaths o_s_OneWayPaths (by simp [a_s_OneWayPaths]) ?_
    simp only [a_s_OneWayPaths, h_l4Counts, c_AreCounts, h_l10Needs, c_l10Needs, h_l10Paths, c_l10Paths, hc, h1, Bool.false_eq_true, List.zipIdx_cons, List.zipIdx_nil, ↓SP, SQ, SU, stepM, callC, argC, nmBy, stepD, stepW, fz, loadA, cellsA, binA, snap, thaw, fzAll, elemOf, partsA, buildA, putCells, ↓reduceIte, reduceCtorEq, okCell, Nat.reduceAdd, Nat.reduceEqDiff, Nat.reduceSub, Nat.reduceMul, Nat.reduceLeDiff, Nat.reduceLT, Nat.reduceBEq]
    exact finA_val (by simp [retA, rvA, mkE_cons, mk_nil, mkO_cons, mkO_nil, loadA, SV.tr, SV.trL, nmF, rn_nil, rn_cons1, rn_cons2, plainOb, SV.refsL, SV.refs, Ob.refs, X, F, List.range_succ, mkO, setO_mk]) (by simp [SV.tr, SV.trL])
  | true =>
    obtain ⟨⟨l1, l3⟩, h8, _⟩ := okC_out h1
    have l1' : (1 : Int) ≤ c.length := by omega
    have l3' : (c.length : Int) ≤ 3 := by omega
    refine is.go hm hΓ k_s_OneWayPaths o_s_OneWayPaths (by simp [a_s_OneWayPaths]) ?_
    simp only [a_s_OneWayPaths, h_l4Counts, c_AreCounts, h_l10Needs, c_l10Needs, h_l10Paths, c_l10Paths, hc, h1, l1', l3', Int.toNat_natCast, isI_ints, ofI_ints, ints_len, List.zipIdx_cons, List.zipIdx_nil, ↓SP, SQ, SU, stepM, callC, argC, nmBy, stepD, stepW, fz, loadA, cellsA, binA, snap, thaw, fzAll, elemOf, partsA, buildA, putCells, ↓reduceIte, reduceCtorEq, okCell, Nat.reduceAdd, Nat.reduceEqDiff, Nat.reduceSub, Nat.reduceMul, Nat.reduceLeDiff, Nat.reduceLT, Nat.reduceBEq]
    exact finA_val (by simp [retA, rvA, mkE_cons, mk_nil, mkO_cons, mkO_nil, loadA, SV.tr, SV.trL, nmF, rn_nil, rn_cons1, rn_cons2, plainOb, SV.refsL, SV.refs, Ob.refs, X, F, List.range_succ, mkO, setO_mk]) (by simp [SV.tr, SV.trL])
abbrev Cu := Int × Int
def u8s (l : List Int) : List PV := l.map fun n => .int .u8 n
def isU : PV → Bool
  | .int .u8 n => decide (0 ≤ n) && decide (n ≤ 255)
  | _ => false
def ofU : PV → Int
  | .int _ n => n
  | _ => 0
def slU : PV → Option (List Int)
  | .sl 1 xs => if xs.all isU = true then some (xs.map ofU) else none
  | .nilsl => some []
  | _ => none
theorem isU_out : ∀ {xs : List PV}, xs.all isU = true → xs = u8s (xs.map ofU) ∧ ∀ x ∈ xs.map ofU, 0 ≤ x ∧ x ≤ 255
  | [], _ => ⟨rfl, by simp⟩
  | x :: r, h => by
    simp only [List.all_cons, Bool.and_eq_true] at h
    obtain ⟨h1, h2⟩ := isU_out (xs := r) h.2
    have h3 := h.1
    unfold isU at h3
    split at h3
    · rename_i n
      simp only [Bool.and_eq_true, decide_eq_true_eq] at h3
      refine ⟨?_, fun y hy => ?_⟩
      · simp only [List.map_cons, u8s, ofU] at h1 ⊢; rw [← h1]
      · simp only [List.map_cons, List.mem_cons] at hy
        rcases hy with rfl | hy
        · exact h3
        · exact h2 y hy
    · cases h3
theorem slU_out {v : PV} {l : List Int} (h : slU v = some l) : (v = .sl 1 (u8s l) ∨ (v = .nilsl ∧ l = [])) ∧ ∀ x ∈ l, 0 ≤ x ∧ x ≤ 255 := by
  unfold slU at h
  split at h
  · split at h
    · rename_i hs
      obtain ⟨h1, h2⟩ := isU_out hs
      injection h with h
      subst h
      rw [← h1]
      exact ⟨.inl rfl, h2⟩
    · cases h
  · injection h with h; subst h; exact ⟨.inr ⟨rfl, rfl⟩, by simp⟩
  · cases h
theorem u8s_len (l : List Int) : (u8s l).length = l.length := by simp [u8s]
theorem u8s_get {l : List Int} {i : Nat} (h : i < l.length) : (u8s l)[i]? = some (.int .u8 (l.getD i 0)) := by simp [u8s, h]
def nxB (l : List Int) (a : Int) : Int := if a < l.length then l.getD a.toNat 0 else 0
def nxS (l : List Int) (c : Cu) : Int := IntKind.u64.wrap (IntKind.u64.wrap (IntKind.u64.wrap (c.2 * 6364136223846793005) + IntKind.u64.wrap (nxB l c.1)) + 462197)
def nxR (l : List Int) (c : Cu) : Int := if c.1 + 1 ≤ l.length then nxB l c.1 else IntKind.i64.wrap (andW .u64 ((nxS l c).fdiv (2 ^ min (Int.toNat 40) IntKind.u64.bits)) 255)
def nxC (l : List Int) (c : Cu) : Cu := (c.1 + 1, nxS l c)
theorem nxB_b {l : List Int} (hl : ∀ x ∈ l, 0 ≤ x ∧ x ≤ 255) {a : Int} (h0 : 0 ≤ a) : 0 ≤ nxB l a ∧ nxB l a ≤ 255 := by
  unfold nxB
  split
  · rename_i h
    have : a.toNat < l.length := by omega
    rw [show l.getD a.toNat 0 = l[a.toNat] by simp [this]]
    exact hl _ (List.getElem_mem _)
  · omega
theorem and255 (x : Int) : 0 ≤ andW .u64 x 255 ∧ andW .u64 x 255 ≤ 255 := by
  have h : (BitVec.ofInt 64 x &&& BitVec.ofInt 64 255).toNat ≤ 255 := by
    rw [BitVec.toNat_and]
    exact Nat.le_trans Nat.and_le_right (by decide)
  show 0 ≤ IntKind.u64.wrap ((BitVec.ofInt 64 x &&& BitVec.ofInt 64 255).toNat : Int) ∧ IntKind.u64.wrap ((BitVec.ofInt 64 x &&& BitVec.ofInt 64 255).toNat : Int) ≤ 255
  generalize (BitVec.ofInt 64 x &&& BitVec.ofInt 64 255).toNat = n at h ⊢
  rw [IntKind.wrap_u64]
  omega
theorem nxR_b {l : List Int} (hl : ∀ x ∈ l, 0 ≤ x ∧ x ≤ 255) {c : Cu} (h0 : 0 ≤ c.1) : 0 ≤ nxR l c ∧ nxR l c ≤ 255 := by
  unfold nxR
  split
  · exact nxB_b hl h0
  · have := and255 ((nxS l c).fdiv (2 ^ min (Int.toNat 40) IntKind.u64.bits))
    rw [wrap64 (by omega) (by omega)]
    exact this
def a_next : AFn := ⟨1, 
  .seq (.reg [⟨some 2, none, .d (.mv (.c (.int .i64 0)))⟩])
  (.seq (.reg [⟨some 3, none, .d (.mv (.c (.int .i64 0)))⟩])
  (.seq (.seq (.dreg [] [([], ⟨some 4, none, .d (.mv (.t 0))⟩),
    ([], ⟨some 5, none, .d (.nilck (.t 4))⟩),
    ([], ⟨some 6, none, .d (.fa 1 (.t 5))⟩),
    ([], ⟨some 7, none, .d (.load false 1 (.t 6))⟩),
    ([], ⟨some 8, none, .d (.mv (.t 0))⟩),
    ([], ⟨some 9, none, .d (.nilck (.t 8))⟩),
    ([], ⟨some 10, none, .d (.fa 0 (.t 9))⟩),
    ([], ⟨some 11, none, .d (.load false 1 (.t 10))⟩),
    ([], ⟨some 12, none, .d (.len (.t 11))⟩)] [⟨some 13, none, .d (.bin .arith .lss (.t 7) (.t 12))⟩])
  (.cond (.t 13) (.dreg [] [([], ⟨some 14, none, .d (.mv (.t 0))⟩),
     ([], ⟨some 15, none, .d (.nilck (.t 14))⟩),
     ([], ⟨some 16, none, .d (.fa 0 (.t 15))⟩),
     ([], ⟨some 17, none, .d (.load false 1 (.t 16))⟩),
     ([], ⟨some 18, none, .d (.mv (.t 0))⟩),
     ([], ⟨some 19, none, .d (.nilck (.t 18))⟩),
     ([], ⟨some 20, none, .d (.fa 1 (.t 19))⟩),
     ([], ⟨some 21, none, .d (.load false 1 (.t 20))⟩)] [⟨some 22, none, .d (.ia 1 (.t 17) (.t 21))⟩,
     ⟨some 23, none, .d (.load false 1 (.t 22))⟩,
     ⟨some 24, none, .d (.conv .i64 (.t 23))⟩,
     ⟨some 3, none, .d (.mv (.t 24))⟩]) (.skip)))
  (.seq (.reg [⟨some 25, none, .d (.mv (.t 0))⟩,
    ⟨some 26, none, .d (.nilck (.t 25))⟩,
    ⟨some 27, none, .d (.fa 1 (.t 26))⟩,
    ⟨some 28, none, .d (.load false 1 (.t 27))⟩,
    ⟨some 29, none, .d (.bin .arith .add (.t 28) (.c (.int .i64 1)))⟩,
    ⟨some 30, none, .d (.nilck (.t 25))⟩,
    ⟨some 31, none, .d (.fa 1 (.t 30))⟩,
    ⟨none, none, .w (.store 1 (.t 31) (.t 29))⟩])
  (.seq (.reg [⟨some 32, none, .d (.mv (.t 0))⟩,
    ⟨some 33, none, .d (.mv (.t 0))⟩,
    ⟨some 34, none, .d (.nilck (.t 33))⟩,
    ⟨some 35, none, .d (.fa 2 (.t 34))⟩,
    ⟨some 36, none, .d (.load false 1 (.t 35))⟩,
    ⟨some 37, none, .d (.bin .arith .mul (.t 36) (.c (.int .u64 6364136223846793005)))⟩,
    ⟨some 38, none, .d (.mv (.t 3))⟩,
    ⟨some 39, none, .d (.conv .u64 (.t 38))⟩,
    ⟨some 40, none, .d (.bin .arith .add (.t 37) (.t 39))⟩,
    ⟨some 41, none, .d (.bin .arith .add (.t 40) (.c (.int .u64 462197)))⟩,
    ⟨some 42, none, .d (.nilck (.t 32))⟩,
    ⟨some 43, none, .d (.fa 2 (.t 42))⟩,
    ⟨none, none, .w (.store 1 (.t 43) (.t 41))⟩])
  (.seq (.seq (.dreg [] [([], ⟨some 44, none, .d (.mv (.t 0))⟩),
    ([], ⟨some 45, none, .d (.nilck (.t 44))⟩),
    ([], ⟨some 46, none, .d (.fa 1 (.t 45))⟩),
    ([], ⟨some 47, none, .d (.load false 1 (.t 46))⟩),
    ([], ⟨some 48, none, .d (.mv (.t 0))⟩),
    ([], ⟨some 49, none, .d (.nilck (.t 48))⟩),
    ([], ⟨some 50, none, .d (.fa 0 (.t 49))⟩),
    ([], ⟨some 51, none, .d (.load false 1 (.t 50))⟩),
    ([], ⟨some 52, none, .d (.len (.t 51))⟩)] [⟨some 53, none, .d (.bin .arith .leq (.t 47) (.t 52))⟩])
  (.cond (.t 53) (.seq (.reg [⟨some 54, none, .d (.mv (.t 3))⟩,
     ⟨some 2, none, .d (.mv (.t 54))⟩])
   (.ret)) (.skip)))
  (.seq (.reg [⟨some 55, none, .d (.mv (.t 0))⟩,
    ⟨some 56, none, .d (.nilck (.t 55))⟩,
    ⟨some 57, none, .d (.fa 2 (.t 56))⟩,
    ⟨some 58, none, .d (.load false 1 (.t 57))⟩,
    ⟨some 59, none, .d (.bin .arith .shr (.t 58) (.c (.int .u64 40)))⟩,
    ⟨some 60, none, .d (.bin .arith .and (.t 59) (.c (.int .u64 255)))⟩,
    ⟨some 61, none, .d (.conv .i64 (.t 60))⟩,
    ⟨some 2, none, .d (.mv (.t 61))⟩])
  (.ret))))))), [.tmp 2]⟩
def n_next : Nat → Option Ann := fun _ => none
abbrev k_next : List Nat := [0, 2, 3, 13, 53]
abbrev o_next : List Nat := []
def c_next : Con
  | [.bx 1000000 0], [.box [.p v, .p (.int .i64 a), .p (.int .u64 s)]] => match slU v with
    | some l => if 0 ≤ a ∧ a ≤ 1000000 then some (.p (.int .i64 (nxR l (a, s))), [.box [.p v, .p (.int .i64 (a + 1)), .p (.int .u64 (nxS l (a, s)))]], []) else none
    | none => none
  | _, _ => none
theorem s_next {P : Program} (hm : P.follows .mixedOrders = true) {Γ : Gam} (hΓ : GS P Γ) {n : FuncId} (is : Is P n a_next)  : Says P n c_next := by
  intro args ext r ext' fs h
  unfold c_next at h
  split at h
  case h_2 => cases h
  rename_i v a s
  split at h
  case h_2 => cases h
  rename_i l hv
  split at h
  case isFalse => cases h
  rename_i hc
  obtain ⟨h0, h1⟩ := hc
  simp only [Option.some.injEq, Prod.mk.injEq] at h
  obtain ⟨rfl, rfl, rfl⟩ := h
  obtain ⟨hv1, hr⟩ := slU_out hv
  have hw1 : IntKind.i64.wrap (a + 1) = a + 1 := wrap64 (by omega) (by omega)
  refine is.goX hm hΓ k_next (1000000 :: o_next) (by simp [a_next]) (by simp) ?_
  rcases hv1 with rfl | ⟨rfl, rfl⟩
  · by_cases hlt : a < l.length
    · have hn : ((a.toNat : Nat) : Int) = a := by omega
      have hb : l.getD a.toNat 0 = nxB l a := by simp [nxB, hlt]
      have hg := u8s_get (l := l) (i := a.toNat) (by omega)
      have hb2 := nxB_b hr h0
      have hw : IntKind.i64.wrap (nxB l a) = nxB l a := wrap64 (by omega) (by omega)
      rw [hb] at hg
      have h2 : a + 1 ≤ l.length := by omega
      simp only [a_next, u8s_len, hlt, hg, hw, hw1, h0, h2, shfI, List.zipIdx_cons, List.zipIdx_nil, ↓SP, SQ, SU, stepM, callC, argC, nmBy, stepD, stepW, fz, loadA, cellsA, binA, snap, thaw, fzAll, elemOf, partsA, buildA, putCells, ↓reduceIte, reduceCtorEq, okCell, Nat.reduceAdd, Nat.reduceEqDiff, Nat.reduceSub, Nat.reduceMul, Nat.reduceLeDiff, Nat.reduceLT, Nat.reduceBEq]
      have e1 : nxR l (a, s) = nxB l a := by simp [nxR, h2]
      rw [e1]
      refine finA_gen [] trivial (by simp [retA, rvA, mkE_cons, mk_nil, mkO_cons, mkO_nil, loadA, SV.tr, SV.trL, nmF, rn_nil, rn_cons1, rn_cons2, plainOb, SV.refsL, SV.refs, Ob.refs, X, F, List.range_succ, mkO, setO_mk]; rfl) ?_ ?_ ?_ ?_ ?_ ?_ ?_ <;> simp [nxS, retA, rvA, mkE_cons, mk_nil, mkO_cons, mkO_nil, loadA, SV.tr, SV.trL, nmF, rn_nil, rn_cons1, rn_cons2, plainOb, SV.refsL, SV.refs, Ob.refs, X, F, List.range_succ, mkO, setO_mk]
    · have hb : nxB l a = 0 := by simp [nxB, hlt]
      have hw : IntKind.i64.wrap 0 = 0 := rfl
      have h2 : ¬ a + 1 ≤ l.length := by omega
      simp only [a_next, u8s_len, hlt, hw1, h0, h2, shfI, Int.reduceLT, bitA_and, List.zipIdx_cons, List.zipIdx_nil, ↓SP, SQ, SU, stepM, callC, argC, nmBy, stepD, stepW, fz, loadA, cellsA, binA, snap, thaw, fzAll, elemOf, partsA, buildA, putCells, ↓reduceIte, reduceCtorEq, okCell, Nat.reduceAdd, Nat.reduceEqDiff, Nat.reduceSub, Nat.reduceMul, Nat.reduceLeDiff, Nat.reduceLT, Nat.reduceBEq]
      have e1 : nxR l (a, s) = IntKind.i64.wrap (andW .u64 ((nxS l (a, s)).fdiv (2 ^ min (Int.toNat 40) IntKind.u64.bits)) 255) := by simp only [nxR, h2, if_false]
      rw [e1]
      refine finA_gen [] trivial (by simp [retA, rvA, mkE_cons, mk_nil, mkO_cons, mkO_nil, loadA, SV.tr, SV.trL, nmF, rn_nil, rn_cons1, rn_cons2, plainOb, SV.refsL, SV.refs, Ob.refs, X, F, List.range_succ, mkO, setO_mk]; rfl) ?_ ?_ ?_ ?_ ?_ ?_ ?_ <;> simp [nxS, hb, retA, rvA, mkE_cons, mk_nil, mkO_cons, mkO_nil, loadA, SV.tr, SV.trL, nmF, rn_nil, rn_cons1, rn_cons2, plainOb, SV.refsL, SV.refs, Ob.refs, X, F, List.range_succ, mkO, setO_mk]
  · have hlt : ¬ a < (([] : List Int).length : Int) := by simp; omega
    have hlt' : ¬ a < ((0 : Nat) : Int) := by omega
    have hw : IntKind.i64.wrap 0 = 0 := rfl
    have hb : nxB [] a = 0 := by simp [nxB]
    have h2' : ¬ a + 1 ≤ ((0 : Nat) : Int) := by omega
    have h2 : ¬ a + 1 ≤ (([] : List Int).length : Int) := by simp; omega
    simp only [a_next, hlt', hw1, h0, h2', shfI, Int.reduceLT, bitA_and, List.zipIdx_cons, List.zipIdx_nil, ↓SP, SQ, SU, stepM, callC, argC, nmBy, stepD, stepW, fz, loadA, cellsA, binA, snap, thaw, fzAll, elemOf, partsA, buildA, putCells, ↓reduceIte, reduceCtorEq, okCell, Nat.reduceAdd, Nat.reduceEqDiff, Nat.reduceSub, Nat.reduceMul, Nat.reduceLeDiff, Nat.reduceLT, Nat.reduceBEq]
    have e1 : nxR [] (a, s) = IntKind.i64.wrap (andW .u64 ((nxS [] (a, s)).fdiv (2 ^ min (Int.toNat 40) IntKind.u64.bits)) 255) := by simp only [nxR, h2, if_false]
    rw [e1]
    refine finA_gen [] trivial (by simp [retA, rvA, mkE_cons, mk_nil, mkO_cons, mkO_nil, loadA, SV.tr, SV.trL, nmF, rn_nil, rn_cons1, rn_cons2, plainOb, SV.refsL, SV.refs, Ob.refs, X, F, List.range_succ, mkO, setO_mk]; rfl) ?_ ?_ ?_ ?_ ?_ ?_ ?_ <;> simp [nxS, hb, retA, rvA, mkE_cons, mk_nil, mkO_cons, mkO_nil, loadA, SV.tr, SV.trL, nmF, rn_nil, rn_cons1, rn_cons2, plainOb, SV.refsL, SV.refs, Ob.refs, X, F, List.range_succ, mkO, setO_mk]
def pkV (l : List Int) (n : Int) (c : Cu) : Int := if n ≤ 1 then 0 else (nxR l c).tmod n
def pkC (l : List Int) (n : Int) (c : Cu) : Cu := if n ≤ 1 then c else nxC l c
theorem pkV_b {l : List Int} (hl : ∀ x ∈ l, 0 ≤ x ∧ x ≤ 255) {n : Int} {c : Cu} (h0 : 0 ≤ c.1) : 0 ≤ pkV l n c ∧ (pkV l n c < n ∨ pkV l n c = 0) := by
  unfold pkV
  split
  · exact ⟨by omega, .inr rfl⟩
  · have := nxR_b hl h0
    exact ⟨Int.tmod_nonneg _ this.1, .inl (Int.tmod_lt_of_pos _ (by omega))⟩
/-- Where a cursor stands, at most. -/
def CuA (c : Cu) (b : Int) : Prop := 0 ≤ c.1 ∧ c.1 ≤ b
theorem CuA.pk {c : Cu} {b : Int} (h : CuA c b) (l : List Int) (n : Int) : CuA (pkC l n c) (b + 1) := by
  unfold pkC
  split
  · exact ⟨h.1, by have := h.2; omega⟩
  · exact ⟨by have := h.1; simp only [nxC]; omega, by have := h.2; simp only [nxC]; omega⟩
theorem CuA.mono {c : Cu} {b b' : Int} (h : CuA c b) (hb : b ≤ b') : CuA c b' := ⟨h.1, Int.le_trans h.2 hb⟩
def a_pick (f_next : FuncId) : AFn := ⟨2, 
  .seq (.reg [⟨some 4, none, .d (.mv (.c (.int .i64 0)))⟩])
  (.seq (.seq (.reg [⟨some 6, none, .d (.mv (.t 1))⟩,
    ⟨some 7, none, .d (.bin .arith .leq (.t 6) (.c (.int .i64 1)))⟩])
  (.cond (.t 7) (.seq (.reg [⟨some 4, none, .d (.mv (.c (.int .i64 0)))⟩])
   (.ret)) (.skip)))
  (.seq (.reg [⟨some 8, none, .d (.mv (.t 0))⟩,
    ⟨some 9, none, .w (.callL (.f f_next) [(.t 8)] [1000000] 0 false)⟩,
    ⟨some 5, none, .d (.mv (.t 9))⟩])
  (.seq (.seq (.reg [⟨some 10, none, .d (.mv (.t 1))⟩,
    ⟨some 11, none, .d (.bin .arith .gtr (.t 10) (.c (.int .i64 200)))⟩])
  (.cond (.t 11) (.reg [⟨some 12, none, .d (.mv (.t 5))⟩,
     ⟨some 13, none, .d (.bin .arith .mul (.t 12) (.c (.int .i64 256)))⟩,
     ⟨some 14, none, .d (.mv (.t 0))⟩,
     ⟨some 15, none, .w (.callL (.f f_next) [(.t 14)] [1000000] 0 false)⟩,
     ⟨some 16, none, .d (.bin .arith .add (.t 13) (.t 15))⟩,
     ⟨some 5, none, .d (.mv (.t 16))⟩]) (.skip)))
  (.seq (.reg [⟨some 17, none, .d (.mv (.t 5))⟩,
    ⟨some 18, none, .d (.mv (.t 1))⟩,
    ⟨some 19, none, .d (.bin .arith .rem (.t 17) (.t 18))⟩,
    ⟨some 4, none, .d (.mv (.t 19))⟩])
  (.ret))))), [.tmp 4]⟩
def n_pick : Nat → Option Ann := fun d => if d = 9 then some ⟨[1000000], 0, false⟩ else if d = 15 then some ⟨[1000000], 0, false⟩ else none
abbrev k_pick : List Nat := [0, 1, 4, 5, 7, 11]
abbrev o_pick : List Nat := []
def c_pick : Con
  | [.bx 1000000 0, .p (.int .i64 n)], [.box [.p v, .p (.int .i64 a), .p (.int .u64 s)]] => match slU v with
    | some l => if 0 ≤ a ∧ a ≤ 1000 ∧ n ≤ 200 then some (.p (.int .i64 (pkV l n (a, s))), [.box [.p v, .p (.int .i64 (pkC l n (a, s)).1), .p (.int .u64 (pkC l n (a, s)).2)]], []) else none
    | none => none
  | _, _ => none
theorem s_pick {P : Program} (hm : P.follows .mixedOrders = true) {Γ : Gam} (hΓ : GS P Γ) {n : FuncId} {f_next : FuncId} (is : Is P n (a_pick f_next)) (h_next : Γ f_next = c_next)  : Says P n c_pick := by
  intro args ext r ext' fs h
  unfold c_pick at h
  split at h
  case h_2 => cases h
  rename_i n' v a s
  split at h
  case h_2 => cases h
  rename_i l hv
  split at h
  case isFalse => cases h
  rename_i hc
  obtain ⟨h0, h1, hn⟩ := hc
  simp only [Option.some.injEq, Prod.mk.injEq] at h
  obtain ⟨rfl, rfl, rfl⟩ := h
  refine is.goX hm hΓ k_pick (1000000 :: o_pick) (by simp [a_pick]) (by simp) ?_
  by_cases hle : n' ≤ 1
  · simp only [a_pick, hle, List.zipIdx_cons, List.zipIdx_nil, ↓SP, SQ, SU, stepM, callC, argC, nmBy, stepD, stepW, fz, loadA, cellsA, binA, snap, thaw, fzAll, elemOf, partsA, buildA, putCells, ↓reduceIte, reduceCtorEq, okCell, Nat.reduceAdd, Nat.reduceEqDiff, Nat.reduceSub, Nat.reduceMul, Nat.reduceLeDiff, Nat.reduceLT, Nat.reduceBEq]
    have e1 : pkV l n' (a, s) = 0 := by simp [pkV, hle]
    have e2 : pkC l n' (a, s) = (a, s) := by simp [pkC, hle]
    rw [e1, e2]
    refine finA_gen [] trivial (by simp [retA, rvA, mkE_cons, mk_nil, mkO_cons, mkO_nil, loadA, SV.tr, SV.trL, nmF, rn_nil, rn_cons1, rn_cons2, plainOb, SV.refsL, SV.refs, Ob.refs, X, F, List.range_succ, mkO, setO_mk]; rfl) ?_ ?_ ?_ ?_ ?_ ?_ ?_ <;> simp [retA, rvA, mkE_cons, mk_nil, mkO_cons, mkO_nil, loadA, SV.tr, SV.trL, nmF, rn_nil, rn_cons1, rn_cons2, plainOb, SV.refsL, SV.refs, Ob.refs, X, F, List.range_succ, mkO, setO_mk]
  · have h2 : ¬ n' > 200 := by omega
    have h3 : a ≤ 1000000 := by omega
    have hb := nxR_b (slU_out hv).2 (c := (a, s)) h0
    have hz : ¬ n' = 0 := by omega
    simp only [a_pick, h_next, c_next, hv, hle, h0, h3, h2, hz, List.zipIdx_cons, List.zipIdx_nil, ↓SP, SQ, SU, stepM, callC, argC, nmBy, stepD, stepW, fz, loadA, cellsA, binA, snap, thaw, fzAll, elemOf, partsA, buildA, putCells, ↓reduceIte, reduceCtorEq, okCell, Nat.reduceAdd, Nat.reduceEqDiff, Nat.reduceSub, Nat.reduceMul, Nat.reduceLeDiff, Nat.reduceLT, Nat.reduceBEq]
    have e1 : pkV l n' (a, s) = (nxR l (a, s)).tmod n' := by simp [pkV, hle]
    have e2 : pkC l n' (a, s) = (a + 1, nxS l (a, s)) := by simp [pkC, nxC, hle]
    rw [e1, e2]
    refine finA_gen [] trivial (by simp [retA, rvA, mkE_cons, mk_nil, mkO_cons, mkO_nil, loadA, SV.tr, SV.trL, nmF, rn_nil, rn_cons1, rn_cons2, plainOb, SV.refsL, SV.refs, Ob.refs, X, F, List.range_succ, mkO, setO_mk]; rfl) ?_ ?_ ?_ ?_ ?_ ?_ ?_ <;> simp [retA, rvA, mkE_cons, mk_nil, mkO_cons, mkO_nil, loadA, SV.tr, SV.trL, nmF, rn_nil, rn_cons1, rn_cons2, plainOb, SV.refsL, SV.refs, Ob.refs, X, F, List.range_succ, mkO, setO_mk]
def a_one (f_pick : FuncId) : AFn := ⟨2, 
  .seq (.reg [⟨some 4, none, .d (.mv (.c (.bool false)))⟩])
  (.seq (.reg [⟨some 5, none, .d (.mv (.t 0))⟩,
    ⟨some 6, none, .d (.mv (.t 1))⟩,
    ⟨some 7, none, .w (.callL (.f f_pick) [(.t 5), (.t 6)] [1000000] 0 false)⟩,
    ⟨some 8, none, .d (.bin .arith .eql (.t 7) (.c (.int .i64 0)))⟩,
    ⟨some 4, none, .d (.mv (.t 8))⟩])
  (.ret)), [.tmp 4]⟩
def n_one : Nat → Option Ann := fun d => if d = 7 then some ⟨[1000000], 0, false⟩ else none
abbrev k_one : List Nat := [0, 1, 4]
abbrev o_one : List Nat := []
def c_one : Con
  | [.bx 1000000 0, .p (.int .i64 n)], [.box [.p v, .p (.int .i64 a), .p (.int .u64 s)]] => match slU v with
    | some l => if 0 ≤ a ∧ a ≤ 1000 ∧ n ≤ 200 then some (.p (.bool (pkV l n (a, s) == 0)), [.box [.p v, .p (.int .i64 (pkC l n (a, s)).1), .p (.int .u64 (pkC l n (a, s)).2)]], []) else none
    | none => none
  | _, _ => none
theorem s_one {P : Program} (hm : P.follows .mixedOrders = true) {Γ : Gam} (hΓ : GS P Γ) {n : FuncId} {f_pick : FuncId} (is : Is P n (a_one f_pick)) (h_pick : Γ f_pick = c_pick)  : Says P n c_one := by
  intro args ext r ext' fs h
  unfold c_one at h
  split at h
  case h_2 => cases h
  rename_i n' v a s
  split at h
  case h_2 => cases h
  rename_i l hv
  split at h
  case isFalse => cases h
  rename_i hc
  obtain ⟨h0, h1, hn⟩ := hc
  simp only [Option.some.injEq, Prod.mk.injEq] at h
  obtain ⟨rfl, rfl, rfl⟩ := h
  refine is.goX hm hΓ k_one (1000000 :: o_one) (by simp [a_one]) (by simp) ?_
  simp only [a_one, h_pick, c_pick, hv, h0, h1, hn, List.zipIdx_cons, List.zipIdx_nil, ↓SP, SQ, SU, stepM, callC, argC, nmBy, stepD, stepW, fz, loadA, cellsA, binA, snap, thaw, fzAll, elemOf, partsA, buildA, putCells, ↓reduceIte, reduceCtorEq, okCell, Nat.reduceAdd, Nat.reduceEqDiff, Nat.reduceSub, Nat.reduceMul, Nat.reduceLeDiff, Nat.reduceLT, Nat.reduceBEq]
  refine finA_gen [] trivial (by simp [retA, rvA, mkE_cons, mk_nil, mkO_cons, mkO_nil, loadA, SV.tr, SV.trL, nmF, rn_nil, rn_cons1, rn_cons2, plainOb, SV.refsL, SV.refs, Ob.refs, X, F, List.range_succ, mkO, setO_mk]; rfl) ?_ ?_ ?_ ?_ ?_ ?_ ?_ <;> simp [retA, rvA, mkE_cons, mk_nil, mkO_cons, mkO_nil, loadA, SV.tr, SV.trL, nmF, rn_nil, rn_cons1, rn_cons2, plainOb, SV.refsL, SV.refs, Ob.refs, X, F, List.range_succ, mkO, setO_mk]
def a_among (f_pick : FuncId) : AFn := ⟨2, 
  .seq (.reg [⟨some 4, none, .d (.mv (.c (.int .i64 0)))⟩])
  (.seq (.reg [⟨some 5, none, .d (.mv (.t 1))⟩,
    ⟨some 6, none, .d (.mv (.t 0))⟩,
    ⟨some 7, none, .d (.mv (.t 1))⟩,
    ⟨some 8, none, .d (.len (.t 7))⟩,
    ⟨some 9, none, .w (.callL (.f f_pick) [(.t 6), (.t 8)] [1000000] 0 false)⟩,
    ⟨some 10, none, .d (.ia 1 (.t 5) (.t 9))⟩,
    ⟨some 11, none, .d (.load false 1 (.t 10))⟩,
    ⟨some 4, none, .d (.mv (.t 11))⟩])
  (.ret)), [.tmp 4]⟩
def n_among : Nat → Option Ann := fun d => if d = 9 then some ⟨[1000000], 0, false⟩ else none
abbrev k_among : List Nat := [0, 1, 4]
abbrev o_among : List Nat := []
def amV (l xs : List Int) (c : Cu) : Int := xs.getD (pkV l xs.length c).toNat 0
def c_among : Con
  | [.bx 1000000 0, .p (.sl 1 xs)], [.box [.p v, .p (.int .i64 a), .p (.int .u64 s)]] => match slU v with
    | some l => if 0 ≤ a ∧ a ≤ 1000 ∧ 1 ≤ xs.length ∧ xs.length ≤ 200 ∧ isI xs = true then some (.p (.int .i64 (amV l (ofI xs) (a, s))), [.box [.p v, .p (.int .i64 (pkC l xs.length (a, s)).1), .p (.int .u64 (pkC l xs.length (a, s)).2)]], []) else none
    | none => none
  | _, _ => none
theorem s_among {P : Program} (hm : P.follows .mixedOrders = true) {Γ : Gam} (hΓ : GS P Γ) {n : FuncId} {f_pick : FuncId} (is : Is P n (a_among f_pick)) (h_pick : Γ f_pick = c_pick)  : Says P n c_among := by
  intro args ext r ext' fs h
  unfold c_among at h
  split at h
  case h_2 => cases h
  rename_i xs v a s
  split at h
  case h_2 => cases h
  rename_i l hv
  split at h
  case isFalse => cases h
  rename_i hc
  obtain ⟨h0, h1, hl1, hl2, hi⟩ := hc
  obtain ⟨xs, rfl⟩ := isI_out hi
  simp only [Option.some.injEq, Prod.mk.injEq, ofI_ints, ints_len] at h hl1 hl2
  obtain ⟨rfl, rfl, rfl⟩ := h
  have hb := pkV_b (slU_out hv).2 (n := (xs.length : Int)) (c := (a, s)) h0
  have hn : (xs.length : Int) ≤ 200 := by omega
  have hb0 := hb.1
  have hg := ints_get (l := xs) (i := (pkV l (xs.length : Int) (a, s)).toNat) (by omega)
  refine is.goX hm hΓ k_among (1000000 :: o_among) (by simp [a_among]) (by simp) ?_
  simp only [a_among, h_pick, c_pick, hv, h0, h1, hn, hb0, hg, List.zipIdx_cons, List.zipIdx_nil, ↓SP, SQ, SU, stepM, callC, argC, nmBy, stepD, stepW, fz, loadA, cellsA, binA, snap, thaw, fzAll, elemOf, partsA, buildA, putCells, ↓reduceIte, reduceCtorEq, okCell, Nat.reduceAdd, Nat.reduceEqDiff, Nat.reduceSub, Nat.reduceMul, Nat.reduceLeDiff, Nat.reduceLT, Nat.reduceBEq]
  refine finA_gen [] trivial (by simp [retA, rvA, mkE_cons, mk_nil, mkO_cons, mkO_nil, loadA, SV.tr, SV.trL, nmF, rn_nil, rn_cons1, rn_cons2, plainOb, SV.refsL, SV.refs, Ob.refs, X, F, List.range_succ, mkO, setO_mk]; rfl) ?_ ?_ ?_ ?_ ?_ ?_ ?_ <;> simp [amV, retA, rvA, mkE_cons, mk_nil, mkO_cons, mkO_nil, loadA, SV.tr, SV.trL, nmF, rn_nil, rn_cons1, rn_cons2, plainOb, SV.refsL, SV.refs, Ob.refs, X, F, List.range_succ, mkO, setO_mk]
def a_lies (f_among : FuncId) : AFn := ⟨1, 
  .seq (.reg [⟨some 2, none, .d (.mv (.c (.int .i64 0)))⟩])
  (.seq (.reg [⟨some 3, none, .d (.mv (.t 0))⟩,
    ⟨some 4, none, .w (.bslice 1 [.int .i64 0, .int .i64 0, .int .i64 0, .int .i64 0, .int .i64 0, .int .i64 0, .int .i64 0, .int .i64 0, .int .i64 0, .int .i64 0, .int .i64 0, .int .i64 0] [(0, (.c (.int .i64 1))), (1, (.c (.int .i64 1))), (2, (.c (.int .i64 2))), (3, (.c (.int .i64 0))), (4, (.c (.int .i64 1))), (5, (.c (.int .i64 2))), (6, (.c (.int .i64 1))), (7, (.c (.int .i64 3))), (8, (.c (.int .i64 (-1)))), (9, (.c (.int .i64 1))), (10, (.c (.int .i64 2))), (11, (.c (.int .i64 0)))])⟩,
    ⟨some 5, none, .w (.callL (.f f_among) [(.t 3), (.t 4)] [1000000] 0 true)⟩,
    ⟨some 2, none, .d (.mv (.t 5))⟩])
  (.ret)), [.tmp 2]⟩
def n_lies : Nat → Option Ann := fun d => if d = 5 then some ⟨[1000000], 0, true⟩ else none
abbrev k_lies : List Nat := [0, 2]
abbrev o_lies : List Nat := [4]
def liV (l : List Int) (c : Cu) : Int := amV l [1, 1, 2, 0, 1, 2, 1, 3, -1, 1, 2, 0] c
def c_lies : Con
  | [.bx 1000000 0], [.box [.p v, .p (.int .i64 a), .p (.int .u64 s)]] => match slU v with
    | some l => if 0 ≤ a ∧ a ≤ 1000 then some (.p (.int .i64 (liV l (a, s))), [.box [.p v, .p (.int .i64 (pkC l 12 (a, s)).1), .p (.int .u64 (pkC l 12 (a, s)).2)]], []) else none
    | none => none
  | _, _ => none
theorem s_lies {P : Program} (hm : P.follows .mixedOrders = true) {Γ : Gam} (hΓ : GS P Γ) {n : FuncId} {f_among : FuncId} (is : Is P n (a_lies f_among)) (h_among : Γ f_among = c_among)  : Says P n c_lies := by
  intro args ext r ext' fs h
  unfold c_lies at h
  split at h
  case h_2 => cases h
  rename_i v a s
  split at h
  case h_2 => cases h
  rename_i l hv
  split at h
  case isFalse => cases h
  rename_i hc
  obtain ⟨h0, h1⟩ := hc
  simp only [Option.some.injEq, Prod.mk.injEq] at h
  obtain ⟨rfl, rfl, rfl⟩ := h
  refine is.goX hm hΓ k_lies (1000000 :: o_lies) (by simp [a_lies]) (by simp) ?_
  simp only [a_lies, h_among, c_among, hv, h0, h1, isI, ofI, List.zipIdx_cons, List.zipIdx_nil, ↓SP, SQ, SU, stepM, callC, argC, nmBy, stepD, stepW, fz, loadA, cellsA, binA, snap, thaw, fzAll, elemOf, partsA, buildA, putCells, ↓reduceIte, reduceCtorEq, okCell, Nat.reduceAdd, Nat.reduceEqDiff, Nat.reduceSub, Nat.reduceMul, Nat.reduceLeDiff, Nat.reduceLT, Nat.reduceBEq]
  refine finA_gen [] trivial (by simp [retA, rvA, mkE_cons, mk_nil, mkO_cons, mkO_nil, loadA, SV.tr, SV.trL, nmF, rn_nil, rn_cons1, rn_cons2, plainOb, SV.refsL, SV.refs, Ob.refs, X, F, List.range_succ, mkO, setO_mk]; rfl) ?_ ?_ ?_ ?_ ?_ ?_ ?_ <;> simp [liV, retA, rvA, mkE_cons, mk_nil, mkO_cons, mkO_nil, loadA, SV.tr, SV.trL, nmF, rn_nil, rn_cons1, rn_cons2, plainOb, SV.refsL, SV.refs, Ob.refs, X, F, List.range_succ, mkO, setO_mk]
theorem cuEta (c : Cu) : (c.1, c.2) = c := rfl
theorem amV_mem {l xs : List Int} (hl : ∀ x ∈ l, 0 ≤ x ∧ x ≤ 255) {c : Cu} (h0 : 0 ≤ c.1) (hx : 1 ≤ xs.length) : amV l xs c ∈ xs := by
  have hb := pkV_b hl (n := (xs.length : Int)) (c := c) h0
  have hlt : (pkV l (xs.length : Int) c).toNat < xs.length := by omega
  unfold amV
  rw [show xs.getD (pkV l (xs.length : Int) c).toNat 0 = xs[(pkV l (xs.length : Int) c).toNat] by simp [hlt]]
  exact List.getElem_mem _
/-- counts, drawn one by one. -/
def cnS (l : List Int) (f : Int) (c : Cu) : Nat → List Int × Int × Cu
  | 0 => ([], f, c)
  | j + 1 => ((cnS l f c j).1 ++ [pkV l ((cnS l f c j).2.1 + 1) (cnS l f c j).2.2], (cnS l f c j).2.1 - pkV l ((cnS l f c j).2.1 + 1) (cnS l f c j).2.2, pkC l ((cnS l f c j).2.1 + 1) (cnS l f c j).2.2)
theorem cnS_b {l : List Int} (hl : ∀ x ∈ l, 0 ≤ x ∧ x ≤ 255) {f b : Int} {c : Cu} (hf : 0 ≤ f) (hc : CuA c b) : ∀ j, (cnS l f c j).1.length = j ∧ 0 ≤ (cnS l f c j).2.1 ∧ (cnS l f c j).2.1 ≤ f ∧ CuA (cnS l f c j).2.2 (b + j) ∧ ∀ x ∈ (cnS l f c j).1, 0 ≤ x ∧ x ≤ f
  | 0 => ⟨rfl, hf, Int.le_refl _, by simpa [cnS] using hc, by simp [cnS]⟩
  | j + 1 => by
    obtain ⟨h1, h2, h3, h4, h5⟩ := cnS_b hl hf hc j
    have hb := pkV_b hl (n := (cnS l f c j).2.1 + 1) h4.1
    refine ⟨by simp [cnS, h1], by simp only [cnS]; omega, by simp only [cnS]; omega, ?_, ?_⟩
    · have := h4.pk l ((cnS l f c j).2.1 + 1)
      simp only [cnS]
      exact this.mono (by omega)
    · intro x hx
      simp only [cnS, List.mem_append, List.mem_singleton] at hx
      rcases hx with hx | rfl
      · exact h5 x hx
      · omega
def cnE (l : List Int) (S : List Int × Int × Cu) : List Int × Cu :=
  if pkV l 40 S.2.2 = 0 then ([], pkC l 40 S.2.2) else if pkV l 40 S.2.2 = 1 then (S.1.set 0 (amV l [-1, 9, 8] (pkC l 40 S.2.2)), pkC l 3 (pkC l 40 S.2.2)) else if pkV l 40 S.2.2 = 2 then (S.1 ++ [0, 0, 0], pkC l 40 S.2.2) else (S.1, pkC l 40 S.2.2)
def cnR (l : List Int) (c : Cu) : List Int × Cu := cnE l (cnS l (amV l [4, 6, 8, 3, 7, 2, 5, 1, 0] c) (pkC l 7 (pkC l 9 c)) (amV l [2, 2, 1, 3, 2, 3, 1] (pkC l 9 c)).toNat)
def a_counts (f_among : FuncId) (f_pick : FuncId) : AFn := ⟨1, 
  .seq (.reg [⟨some 2, none, .d (.mv (.c (.nilsl)))⟩])
  (.seq (.reg [⟨some 7, none, .w (.bslice 1 [] [])⟩,
    ⟨some 8, none, .d (.mv (.t 0))⟩,
    ⟨some 9, none, .w (.bslice 1 [.int .i64 0, .int .i64 0, .int .i64 0, .int .i64 0, .int .i64 0, .int .i64 0, .int .i64 0, .int .i64 0, .int .i64 0] [(0, (.c (.int .i64 4))), (1, (.c (.int .i64 6))), (2, (.c (.int .i64 8))), (3, (.c (.int .i64 3))), (4, (.c (.int .i64 7))), (5, (.c (.int .i64 2))), (6, (.c (.int .i64 5))), (7, (.c (.int .i64 1))), (8, (.c (.int .i64 0)))])⟩,
    ⟨some 10, none, .w (.callL (.f f_among) [(.t 8), (.t 9)] [1000000] 0 true)⟩,
    ⟨some 3, none, .d (.mv (.t 7))⟩,
    ⟨some 4, none, .d (.mv (.t 10))⟩])
  (.seq (.seq (.reg [⟨some 11, none, .d (.mv (.t 0))⟩,
    ⟨some 12, none, .w (.bslice 1 [.int .i64 0, .int .i64 0, .int .i64 0, .int .i64 0, .int .i64 0, .int .i64 0, .int .i64 0] [(0, (.c (.int .i64 2))), (1, (.c (.int .i64 2))), (2, (.c (.int .i64 1))), (3, (.c (.int .i64 3))), (4, (.c (.int .i64 2))), (5, (.c (.int .i64 3))), (6, (.c (.int .i64 1)))])⟩,
    ⟨some 13, none, .w (.callL (.f f_among) [(.t 11), (.t 12)] [1000000] 0 true)⟩,
    ⟨some 5, none, .d (.mv (.t 13))⟩])
  (.block 0 (.loop (.seq (.seq (.reg [⟨some 14, none, .d (.mv (.t 5))⟩,
      ⟨some 15, none, .d (.bin .arith .gtr (.t 14) (.c (.int .i64 0)))⟩])
    (.cond (.t 15) (.skip) (.exit 0)))
    (.seq (.block 1 (.seq (.reg [⟨some 18, none, .d (.mv (.t 0))⟩,
       ⟨some 19, none, .d (.mv (.t 4))⟩,
       ⟨some 20, none, .d (.bin .arith .add (.t 19) (.c (.int .i64 1)))⟩,
       ⟨some 21, none, .w (.callL (.f f_pick) [(.t 18), (.t 20)] [1000000] 0 false)⟩,
       ⟨some 6, none, .d (.mv (.t 21))⟩])
     (.seq (.reg [⟨some 22, none, .d (.mv (.t 3))⟩,
       ⟨some 23, none, .d (.mv (.t 6))⟩,
       ⟨some 24, none, .w (.bslice 1 [.int .i64 0] [(0, (.t 23))])⟩,
       ⟨some 25, none, .w (.append 1 (.t 22) (.t 24))⟩,
       ⟨some 3, none, .d (.mv (.t 25))⟩])
     (.reg [⟨some 26, none, .d (.mv (.t 4))⟩,
       ⟨some 27, none, .d (.mv (.t 6))⟩,
       ⟨some 28, none, .d (.bin .arith .sub (.t 26) (.t 27))⟩,
       ⟨some 4, none, .d (.mv (.t 28))⟩]))))
    (.reg [⟨some 16, none, .d (.mv (.t 5))⟩,
      ⟨some 17, none, .d (.bin .arith .sub (.t 16) (.c (.int .i64 1)))⟩,
      ⟨some 5, none, .d (.mv (.t 17))⟩]))))))
  (.seq (.seq (.reg [⟨some 29, none, .d (.mv (.t 0))⟩,
    ⟨some 30, none, .w (.callL (.f f_pick) [(.t 29), (.c (.int .i64 40))] [1000000] 0 false)⟩])
  (.block 2 (.seq (.reg [⟨some 32, none, .d (.bin .arith .eql (.t 30) (.c (.int .i64 0)))⟩,
     ⟨some 31, none, .d (.mv (.t 32))⟩])
   (.cond (.t 31) (.seq (.reg [⟨some 33, none, .w (.bslice 1 [] [])⟩,
      ⟨some 2, none, .d (.mv (.t 33))⟩])
    (.ret)) (.seq (.reg [⟨some 35, none, .d (.bin .arith .eql (.t 30) (.c (.int .i64 1)))⟩,
      ⟨some 34, none, .d (.mv (.t 35))⟩])
    (.cond (.t 34) (.reg [⟨some 36, none, .d (.mv (.t 3))⟩,
       ⟨some 37, none, .d (.mv (.t 0))⟩,
       ⟨some 38, none, .w (.bslice 1 [.int .i64 0, .int .i64 0, .int .i64 0] [(0, (.c (.int .i64 (-1)))), (1, (.c (.int .i64 9))), (2, (.c (.int .i64 8)))])⟩,
       ⟨some 39, none, .w (.callL (.f f_among) [(.t 37), (.t 38)] [1000000] 0 true)⟩,
       ⟨some 40, none, .d (.ia 1 (.t 36) (.c (.int .i64 0)))⟩,
       ⟨none, none, .w (.store 1 (.t 40) (.t 39))⟩]) (.seq (.reg [⟨some 42, none, .d (.bin .arith .eql (.t 30) (.c (.int .i64 2)))⟩,
       ⟨some 41, none, .d (.mv (.t 42))⟩])
     (.cond (.t 41) (.seq (.reg [⟨some 43, none, .d (.mv (.t 3))⟩,
        ⟨some 44, none, .w (.bslice 1 [.int .i64 0, .int .i64 0, .int .i64 0] [(0, (.c (.int .i64 0))), (1, (.c (.int .i64 0))), (2, (.c (.int .i64 0)))])⟩,
        ⟨some 45, none, .w (.append 1 (.t 43) (.t 44))⟩,
        ⟨some 2, none, .d (.mv (.t 45))⟩])
      (.ret)) (.skip)))))))))
  (.seq (.reg [⟨some 46, none, .d (.mv (.t 3))⟩,
    ⟨some 2, none, .d (.mv (.t 46))⟩])
  (.ret))))), [.tmp 2]⟩
def n_counts : Nat → Option Ann := fun d => if d = 10 then some ⟨[1000000], 0, true⟩ else if d = 13 then some ⟨[1000000], 0, true⟩ else if d = 21 then some ⟨[1000000], 0, false⟩ else if d = 30 then some ⟨[1000000], 0, false⟩ else if d = 39 then some ⟨[1000000], 0, true⟩ else none
abbrev k_counts : List Nat := [0, 2, 3, 4, 5, 6, 15, 30, 31, 34, 41]
abbrev o_counts : List Nat := [7, 9, 12, 24, 25, 33, 38, 44, 45]
def c_counts : Con
  | [.bx 1000000 0], [.box [.p v, .p (.int .i64 a), .p (.int .u64 s)]] => match slU v with
    | some l => if 0 ≤ a ∧ a ≤ 900 then some (.ar 2000000, [.box [.p v, .p (.int .i64 (cnR l (a, s)).2.1), .p (.int .u64 (cnR l (a, s)).2.2)]], [.arr 1 (ints (cnR l (a, s)).1)]) else none
    | none => none
  | _, _ => none
theorem s_counts {P : Program} (hm : P.follows .mixedOrders = true) {Γ : Gam} (hΓ : GS P Γ) {n : FuncId} {f_among : FuncId} {f_pick : FuncId} (is : Is P n (a_counts f_among f_pick)) (h_among : Γ f_among = c_among) (h_pick : Γ f_pick = c_pick)  : Says P n c_counts := by
  intro args ext r ext' fs h
  unfold c_counts at h
  split at h
  case h_2 => cases h
  rename_i v a s
  split at h
  case h_2 => cases h
  rename_i l hv
  split at h
  case isFalse => cases h
  rename_i hc
  obtain ⟨h0, h1⟩ := hc
  simp only [Option.some.injEq, Prod.mk.injEq] at h
  obtain ⟨rfl, rfl, rfl⟩ := h
  have hl := (slU_out hv).2
  have ha0 : CuA (a, s) 900 := ⟨h0, h1⟩
  have h1' : a ≤ 1000 := by omega
  have ha1 := ha0.pk l 9
  have ha2 := ha1.pk l 7
  have hL : 0 ≤ amV l [4, 6, 8, 3, 7, 2, 5, 1, 0] (a, s) ∧ amV l [4, 6, 8, 3, 7, 2, 5, 1, 0] (a, s) ≤ 8 := (by decide : ∀ x ∈ ([4, 6, 8, 3, 7, 2, 5, 1, 0] : List Int), 0 ≤ x ∧ x ≤ 8) _ (amV_mem hl ha0.1 (by decide))
  have hM : 1 ≤ amV l [2, 2, 1, 3, 2, 3, 1] (pkC l 9 (a, s)) ∧ amV l [2, 2, 1, 3, 2, 3, 1] (pkC l 9 (a, s)) ≤ 3 := (by decide : ∀ x ∈ ([2, 2, 1, 3, 2, 3, 1] : List Int), 1 ≤ x ∧ x ≤ 3) _ (amV_mem hl ha1.1 (by decide))
  have hcr : cnR l (a, s) = cnE l (cnS l (amV l [4, 6, 8, 3, 7, 2, 5, 1, 0] (a, s)) (pkC l 7 (pkC l 9 (a, s))) (amV l [2, 2, 1, 3, 2, 3, 1] (pkC l 9 (a, s))).toNat) := rfl
  refine is.goX hm hΓ k_counts (1000000 :: o_counts) (by simp [a_counts]) (by simp) ?_
  have q1 := ha1.1
  have q2 : (pkC l 9 (a, s)).1 ≤ 1000 := by have := ha1.2; omega
  rw [hcr]
  simp only [a_counts, h_among, c_among, h_pick, c_pick, hv, h0, h1', q1, q2, isI, ofI, cuEta, Int.cast_ofNat_Int, List.zipIdx_cons, List.zipIdx_nil, ↓SP, SQ, SU, stepM, callC, argC, nmBy, stepD, stepW, fz, loadA, cellsA, binA, snap, thaw, fzAll, elemOf, partsA, buildA, putCells, ↓reduceIte, reduceCtorEq, okCell, Nat.reduceAdd, Nat.reduceEqDiff, Nat.reduceSub, Nat.reduceMul, Nat.reduceLeDiff, Nat.reduceLT, Nat.reduceBEq]
  generalize amV l [4, 6, 8, 3, 7, 2, 5, 1, 0] (a, s) = L at *
  generalize amV l [2, 2, 1, 3, 2, 3, 1] (pkC l 9 (a, s)) = M at *
  generalize pkC l 7 (pkC l 9 (a, s)) = c2 at *
  obtain ⟨M, rfl⟩ : ∃ m : Nat, M = m := ⟨M.toNat, by omega⟩
  have hcn := cnS_b hl hL.1 ha2
  generalize hS : cnS l L c2 = S at *
  have hSs : ∀ j, S (j + 1) = ((S j).1 ++ [pkV l ((S j).2.1 + 1) (S j).2.2], (S j).2.1 - pkV l ((S j).2.1 + 1) (S j).2.2, pkC l ((S j).2.1 + 1) (S j).2.2) := fun j => by rw [← hS]; rfl
  have hS0 : S 0 = ([], L, c2) := by rw [← hS]; rfl
  simp only [Int.toNat_natCast]
  refine loop_at (fun s : Nat × SV × SV × Option Ob => mkEnv [(0, .bx 1000000 0), (2, .p .nilsl), (3, .ar 7), (4, si (S s.1).2.1), (5, si ((M : Int) - s.1)), (6, s.2.1), (15, s.2.2.1), (30, .junk), (31, .junk), (34, .junk), (41, .junk)])
    (fun s => mkO [(1000000, some (.box [.p v, si (S s.1).2.2.1, .p (.int .u64 (S s.1).2.2.2)])), (7, some (.arr 1 (ints (S s.1).1))), (9, none), (12, none), (24, s.2.2.2), (25, none), (33, none), (38, none), (44, none), (45, none)])
    (fun s => s.1 ≤ M) (fun s => M - s.1) (0, .junk, .junk, none) (by simp) (by simp [hS0]) (by simp [hS0]; rfl) ?_
  rintro ⟨j, x6, x15, o24⟩ hj R hR hN
  simp only at hj
  obtain ⟨g1, g2, g3, g4, g5⟩ := hcn j
  have r1 := g4.1
  have r2 : (S j).2.2.1 ≤ 1000 := by have := g4.2; omega
  by_cases h : j < M
  · have hgt : (M : Int) - j > 0 := by omega
    have hw : IntKind.i64.wrap ((S j).2.1 + 1) = (S j).2.1 + 1 := wrap64 (by omega) (by omega)
    have hp := pkV_b hl (n := (S j).2.1 + 1) g4.1
    have hw2 : IntKind.i64.wrap ((S j).2.1 - pkV l ((S j).2.1 + 1) (S j).2.2) = (S (j + 1)).2.1 := by rw [hSs]; exact wrap64 (by omega) (by omega)
    have hw3 : IntKind.i64.wrap ((M : Int) - j - 1) = (M : Int) - ((j + 1 : Nat) : Int) := by rw [wrap64 (by omega) (by omega)]; omega
    have hn : (S j).2.1 + 1 ≤ 200 := by omega
    have hap : ints (S j).1 ++ [.int .i64 (pkV l ((S j).2.1 + 1) (S j).2.2)] = ints (S (j + 1)).1 := by rw [hSs]; exact ints_app1 _ _
    have hln : (S j).1.length + 1 ≤ roomA := by rw [g1]; exact Nat.le_trans (by omega) (by decide : 100 ≤ roomA)
    have hc1 : pkC l ((S j).2.1 + 1) (S j).2.2 = (S (j + 1)).2.2 := by rw [hSs]
    simp only [h_pick, c_pick, hv, r1, r2, hgt, hw, hw2, hw3, hn, hap, hln, hc1, cuEta, ↓SP, SQ, SU, stepM, callC, argC, nmBy, stepD, stepW, fz, loadA, cellsA, binA, snap, thaw, fzAll, elemOf, partsA, buildA, putCells, ↓reduceIte, reduceCtorEq, okCell, Nat.reduceAdd, Nat.reduceEqDiff, Nat.reduceSub, Nat.reduceMul, Nat.reduceLeDiff, Nat.reduceLT, Nat.reduceBEq]
    exact hN (j + 1, _, _, _) _ _ (by simp only; omega) (by simp only; omega) rfl rfl
  · have he : j = M := by omega
    subst he
    have hgt : ¬ (j : Int) - j > 0 := by omega
    simp only [hgt, ↓SP, SQ, SU, stepM, callC, argC, nmBy, stepD, stepW, fz, loadA, cellsA, binA, snap, thaw, fzAll, elemOf, partsA, buildA, putCells, ↓reduceIte, reduceCtorEq, okCell, Nat.reduceAdd, Nat.reduceEqDiff, Nat.reduceSub, Nat.reduceMul, Nat.reduceLeDiff, Nat.reduceLT, Nat.reduceBEq]
    refine hR _ _ _ (by intro h; cases h) ?_
    simp only [h_pick, c_pick, hv, r1, r2, cuEta, (by decide : (40 : Int) ≤ 200), ↓SP, SQ, SU, stepM, callC, argC, nmBy, stepD, stepW, fz, loadA, cellsA, binA, snap, thaw, fzAll, elemOf, partsA, buildA, putCells, ↓reduceIte, reduceCtorEq, okCell, Nat.reduceAdd, Nat.reduceEqDiff, Nat.reduceSub, Nat.reduceMul, Nat.reduceLeDiff, Nat.reduceLT, Nat.reduceBEq]
    have ha3 := g4.pk l 40
    have t1 := ha3.1
    have t2 : (pkC l 40 (S j).2.2).1 ≤ 1000 := by have := ha3.2; omega
    unfold cnE
    by_cases p0 : pkV l 40 (S j).2.2 = 0
    · simp only [p0, if_true, ↓SP, SQ, SU, stepM, callC, argC, nmBy, stepD, stepW, fz, loadA, cellsA, binA, snap, thaw, fzAll, elemOf, partsA, buildA, putCells, ↓reduceIte, reduceCtorEq, okCell, Nat.reduceAdd, Nat.reduceEqDiff, Nat.reduceSub, Nat.reduceMul, Nat.reduceLeDiff, Nat.reduceLT, Nat.reduceBEq]
      refine finA_gen [33] trivial (by simp [retA, rvA, mkE_cons, mk_nil, mkO_cons, mkO_nil, loadA, SV.tr, SV.trL, nmF, rn_nil, rn_cons1, rn_cons2, plainOb, SV.refsL, SV.refs, Ob.refs, X, F, List.range_succ, mkO, setO_mk]; rfl) ?_ ?_ ?_ ?_ ?_ ?_ ?_ <;> simp [ints, retA, rvA, mkE_cons, mk_nil, mkO_cons, mkO_nil, loadA, SV.tr, SV.trL, nmF, rn_nil, rn_cons1, rn_cons2, plainOb, SV.refsL, SV.refs, Ob.refs, X, F, List.range_succ, mkO, setO_mk]
    · have p0' : (pkV l 40 (S j).2.2 == 0) = false := by simp [p0]
      by_cases p1 : pkV l 40 (S j).2.2 = 1
      · have d1 : (S j).1 ≠ [] := by intro h; rw [h] at g1; simp at g1; omega
        have d2 : 0 < (S j).1.length := by omega
        have hg := ints_get (l := (S j).1) (i := 0) d2
        have hst : (ints (S j).1).set 0 (.int .i64 (amV l [-1, 9, 8] (pkC l 40 (S j).2.2))) = ints ((S j).1.set 0 (amV l [-1, 9, 8] (pkC l 40 (S j).2.2))) := ints_set _ _ _
        simp only [p0, p1, h_among, c_among, t1, t2, hv, hg, hst, d2, isI, ofI, cuEta, Int.cast_ofNat_Int, if_true, if_false, (by decide : ¬ (1 : Int) = 0), (by decide : ((1 : Int) == 0) = false), Int.le_refl, Int.reduceToNat, ↓SP, SQ, SU, stepM, callC, argC, nmBy, stepD, stepW, fz, loadA, cellsA, binA, snap, thaw, fzAll, elemOf, partsA, buildA, putCells, ↓reduceIte, reduceCtorEq, okCell, Nat.reduceAdd, Nat.reduceEqDiff, Nat.reduceSub, Nat.reduceMul, Nat.reduceLeDiff, Nat.reduceLT, Nat.reduceBEq]
        refine finA_gen [7] trivial (by simp [retA, rvA, mkE_cons, mk_nil, mkO_cons, mkO_nil, loadA, SV.tr, SV.trL, nmF, rn_nil, rn_cons1, rn_cons2, plainOb, SV.refsL, SV.refs, Ob.refs, X, F, List.range_succ, mkO, setO_mk]; rfl) ?_ ?_ ?_ ?_ ?_ ?_ ?_ <;> simp [retA, rvA, mkE_cons, mk_nil, mkO_cons, mkO_nil, loadA, SV.tr, SV.trL, nmF, rn_nil, rn_cons1, rn_cons2, plainOb, SV.refsL, SV.refs, Ob.refs, X, F, List.range_succ, mkO, setO_mk]
      · have p1' : (pkV l 40 (S j).2.2 == 1) = false := by simp [p1]
        by_cases p2 : pkV l 40 (S j).2.2 = 2
        · have hln : (S j).1.length + 3 ≤ roomA := by rw [g1]; exact Nat.le_trans (by omega) (by decide : 100 ≤ roomA)
          have hap : ints (S j).1 ++ [.int .i64 0, .int .i64 0, .int .i64 0] = ints ((S j).1 ++ [0, 0, 0]) := ints_app (S j).1 [0, 0, 0]
          simp only [p0, p1, p2, if_true, if_false, (by decide : ¬ (2 : Int) = 0), (by decide : ¬ (2 : Int) = 1), (by decide : ((2 : Int) == 0) = false), (by decide : ((2 : Int) == 1) = false), hln, hap, ↓SP, SQ, SU, stepM, callC, argC, nmBy, stepD, stepW, fz, loadA, cellsA, binA, snap, thaw, fzAll, elemOf, partsA, buildA, putCells, ↓reduceIte, reduceCtorEq, okCell, Nat.reduceAdd, Nat.reduceEqDiff, Nat.reduceSub, Nat.reduceMul, Nat.reduceLeDiff, Nat.reduceLT, Nat.reduceBEq]
          refine finA_gen [7] trivial (by simp [retA, rvA, mkE_cons, mk_nil, mkO_cons, mkO_nil, loadA, SV.tr, SV.trL, nmF, rn_nil, rn_cons1, rn_cons2, plainOb, SV.refsL, SV.refs, Ob.refs, X, F, List.range_succ, mkO, setO_mk]; rfl) ?_ ?_ ?_ ?_ ?_ ?_ ?_ <;> simp [retA, rvA, mkE_cons, mk_nil, mkO_cons, mkO_nil, loadA, SV.tr, SV.trL, nmF, rn_nil, rn_cons1, rn_cons2, plainOb, SV.refsL, SV.refs, Ob.refs, X, F, List.range_succ, mkO, setO_mk]
        · have p2' : (pkV l 40 (S j).2.2 == 2) = false := by simp [p2]
          simp only [p0, p1, p2, p0', p1', p2', if_true, if_false, ↓SP, SQ, SU, stepM, callC, argC, nmBy, stepD, stepW, fz, loadA, cellsA, binA, snap, thaw, fzAll, elemOf, partsA, buildA, putCells, ↓reduceIte, reduceCtorEq, okCell, Nat.reduceAdd, Nat.reduceEqDiff, Nat.reduceSub, Nat.reduceMul, Nat.reduceLeDiff, Nat.reduceLT, Nat.reduceBEq]
          refine finA_gen [7] trivial (by simp [retA, rvA, mkE_cons, mk_nil, mkO_cons, mkO_nil, loadA, SV.tr, SV.trL, nmF, rn_nil, rn_cons1, rn_cons2, plainOb, SV.refsL, SV.refs, Ob.refs, X, F, List.range_succ, mkO, setO_mk]; rfl) ?_ ?_ ?_ ?_ ?_ ?_ ?_ <;> simp [retA, rvA, mkE_cons, mk_nil, mkO_cons, mkO_nil, loadA, SV.tr, SV.trL, nmF, rn_nil, rn_cons1, rn_cons2, plainOb, SV.refsL, SV.refs, Ob.refs, X, F, List.range_succ, mkO, setO_mk]
end Go.Proofs.Ytihpfhdkjlphhaa.Pam
