/- A part of the proof that stands in this folder: a small machine whose steps are shown to be the steps of the model, or walks of functions by it. No condition of its own. -/
import Derived.Test.YtmbljmolegalhaaGbQE
set_option linter.unusedVariables false
set_option linter.unusedSimpArgs false
namespace Go.Proofs.Ytmbljmolegalhaa.Pam
open Go
def qlI (l : List Int) (n : Int) (c : Cu) : Nat → List Int × Cu
  | 0 => ([], c)
  | i + 1 => ((qlI l n c i).1 ++ [(qsR l n (qlI l n c i).2).1], (qsR l n (qlI l n c i).2).2)
theorem qlI_len (l : List Int) (n : Int) (c : Cu) : ∀ i, (qlI l n c i).1.length = i
  | 0 => rfl
  | i + 1 => by simp only [qlI, List.length_append, qlI_len l n c i, List.length_cons, List.length_nil]
theorem qlI_at {l : List Int} {n : Int} {c : Cu} {b : Int} (h : CuA c b) : ∀ i : Nat, CuA (qlI l n c i).2 (b + 3 * i)
  | 0 => h.mono (by omega)
  | i + 1 => (qsR_at (qlI_at h i)).mono (by omega)
def padL (o : List Int) : List Int := o ++ List.replicate (15 - o.length) 1
def restR (l : List Int) (n : Int) (c : Cu) : List Int × Cu :=
  let r := qlI l n (pkC l 8 c) (amV l [3, 4, 2, 6, 1, 0, 9, 14] c).toNat
  (if pkV l 40 r.2 = 0 then padL r.1 else r.1, pkC l 40 r.2)
def sc5 (l : List Int) (n : Int) (c : Cu) : List Int × Cu :=
  if pkV l 4 c = 0 then
    match gsR n (pkV l 3 (pkC l 4 c)) with
    | some x => (x, pkC l 3 (pkC l 4 c))
    | none => restR l n (pkC l 3 (pkC l 4 c))
  else if pkV l 4 c = 1 then
    if isN n = true then
      if pkV l 2 (pkC l 4 c) = 0 then (bsL n ++ [(qsR l n (pkC l 2 (pkC l 4 c))).1], (qsR l n (pkC l 2 (pkC l 4 c))).2)
      else (bsL n, pkC l 2 (pkC l 4 c))
    else restR l n (pkC l 4 c)
  else restR l n (pkC l 4 c)
theorem gsF_len {n m : Int} {x : List Int} : ∀ q, gsF n m q = some x → x.length ≤ q
  | 0, h => by cases h
  | q + 1, h => by
    rw [gsF] at h
    split at h
    · rename_i y hy
      injection h with h; subst h
      have := gsF_len q hy; omega
    · split at h
      · injection h with h; subst h; rw [ofL5_len]; omega
      · cases h
theorem bsL_len (n : Int) : (bsL n).length ≤ 4 := by
  unfold bsL
  split
  · rw [ofL5_len]; exact bqN_le n
  · simp
theorem restR_len {l : List Int} (hl : ∀ x ∈ l, 0 ≤ x ∧ x ≤ 255) {n : Int} {c : Cu} (h0 : 0 ≤ c.1) : (restR l n c).1.length ≤ 15 := by
  have hmb : 0 ≤ amV l [3, 4, 2, 6, 1, 0, 9, 14] c ∧ amV l [3, 4, 2, 6, 1, 0, 9, 14] c ≤ 14 := (by decide : ∀ x ∈ ([3, 4, 2, 6, 1, 0, 9, 14] : List Int), 0 ≤ x ∧ x ≤ 14) _ (amV_mem hl h0 (by decide))
  have hlen := qlI_len l n (pkC l 8 c) (amV l [3, 4, 2, 6, 1, 0, 9, 14] c).toNat
  simp only [restR]
  split
  · simp only [padL, List.length_append, List.length_replicate, hlen]; omega
  · rw [hlen]; omega
theorem sc5_len {l : List Int} (hl : ∀ x ∈ l, 0 ≤ x ∧ x ≤ 255) {n : Int} {c : Cu} {b : Int} (hc : CuA c b) : (sc5 l n c).1.length ≤ 15 := by
  have h4 := hc.pk l 4
  have h3 := h4.pk l 3
  unfold sc5
  split
  · split
    · rename_i x hx
      simp only [gsR] at hx
      split at hx
      · exact gsF_len 15 hx
      · cases hx
    · exact restR_len hl h3.1
  · split
    · split
      · have := bsL_len n
        split
        · simp only [List.length_append, List.length_cons, List.length_nil]; omega
        · simp only; omega
      · exact restR_len hl h4.1
    · exact restR_len hl h4.1
theorem restR_at {l : List Int} (hl : ∀ x ∈ l, 0 ≤ x ∧ x ≤ 255) {n : Int} {c : Cu} {b : Int} (hc : CuA c b) : CuA (restR l n c).2 (b + 44) := by
  have hmb : 0 ≤ amV l [3, 4, 2, 6, 1, 0, 9, 14] c ∧ amV l [3, 4, 2, 6, 1, 0, 9, 14] c ≤ 14 := (by decide : ∀ x ∈ ([3, 4, 2, 6, 1, 0, 9, 14] : List Int), 0 ≤ x ∧ x ≤ 14) _ (amV_mem hl hc.1 (by decide))
  have h := (qlI_at (l := l) (n := n) (hc.pk l 8) (amV l [3, 4, 2, 6, 1, 0, 9, 14] c).toNat).pk l 40
  exact h.mono (by omega)
theorem sc5_at {l : List Int} (hl : ∀ x ∈ l, 0 ≤ x ∧ x ≤ 255) {n : Int} {c : Cu} {b : Int} (hc : CuA c b) : CuA (sc5 l n c).2 (b + 50) := by
  have h4 := hc.pk l 4
  have h3 := h4.pk l 3
  have h2 := h4.pk l 2
  unfold sc5
  split
  · split
    · exact h3.mono (by omega)
    · exact (restR_at hl h3).mono (by omega)
  · split
    · split
      · split
        · exact (qsR_at h2).mono (by omega)
        · exact h2.mono (by omega)
      · exact (restR_at hl h4).mono (by omega)
    · exact (restR_at hl h4).mono (by omega)
def a_scheme5 (f_pick : FuncId) (f_GreedyScheme : FuncId) (f_BitScheme : FuncId) (f_one : FuncId) (f_question : FuncId) (f_among : FuncId) : AFn := ⟨2, 
  .seq (.reg [⟨some 4, none, .d (.mv (.c (.nilsl)))⟩])
  (.seq (.reg [⟨some 11, none, .w (.bslice 1 [] [])⟩,
    ⟨some 5, none, .d (.mv (.t 11))⟩])
  (.seq (.seq (.reg [⟨some 12, none, .d (.mv (.t 0))⟩,
    ⟨some 13, none, .w (.callL (.f f_pick) [(.t 12), (.c (.int .i64 4))] [1000000] 0 false)⟩])
  (.block 0 (.seq (.reg [⟨some 15, none, .d (.bin .arith .eql (.t 13) (.c (.int .i64 0)))⟩,
     ⟨some 14, none, .d (.mv (.t 15))⟩])
   (.cond (.t 14) (.seq (.reg [⟨some 17, none, .d (.mv (.t 1))⟩,
      ⟨some 18, none, .d (.mv (.t 0))⟩,
      ⟨some 19, none, .w (.callL (.f f_pick) [(.t 18), (.c (.int .i64 3))] [1000000] 0 false)⟩,
      ⟨some 20, none, .w (.callL (.f f_GreedyScheme) [(.t 17), (.t 19)] [] 1 false)⟩,
      ⟨some 16, none, .d (.mv (.t 20))⟩,
      ⟨some 21, none, .d (.extract (.t 16) 0)⟩,
      ⟨some 22, none, .d (.extract (.t 16) 1)⟩,
      ⟨some 6, none, .d (.mv (.t 21))⟩,
      ⟨some 7, none, .d (.mv (.t 22))⟩])
    (.seq (.reg [⟨some 23, none, .d (.mv (.t 7))⟩])
    (.cond (.t 23) (.seq (.reg [⟨some 24, none, .d (.mv (.t 6))⟩,
       ⟨some 4, none, .d (.mv (.t 24))⟩])
     (.ret)) (.skip)))) (.seq (.reg [⟨some 26, none, .d (.bin .arith .eql (.t 13) (.c (.int .i64 1)))⟩,
      ⟨some 25, none, .d (.mv (.t 26))⟩])
    (.cond (.t 25) (.seq (.reg [⟨some 28, none, .d (.mv (.t 1))⟩,
       ⟨some 29, none, .w (.callL (.f f_BitScheme) [(.t 28)] [] 1 false)⟩,
       ⟨some 27, none, .d (.mv (.t 29))⟩,
       ⟨some 30, none, .d (.extract (.t 27) 0)⟩,
       ⟨some 31, none, .d (.extract (.t 27) 1)⟩,
       ⟨some 8, none, .d (.mv (.t 30))⟩,
       ⟨some 9, none, .d (.mv (.t 31))⟩])
     (.seq (.reg [⟨some 32, none, .d (.mv (.t 9))⟩])
     (.cond (.t 32) (.seq (.seq (.reg [⟨some 33, none, .d (.mv (.t 0))⟩,
        ⟨some 34, none, .w (.callL (.f f_one) [(.t 33), (.c (.int .i64 2))] [1000000] 0 false)⟩])
      (.cond (.t 34) (.reg [⟨some 35, none, .d (.mv (.t 8))⟩,
         ⟨some 36, none, .d (.mv (.t 0))⟩,
         ⟨some 37, none, .d (.mv (.t 1))⟩,
         ⟨some 38, none, .w (.callL (.f f_question) [(.t 36), (.t 37)] [1000000] 0 false)⟩,
         ⟨some 39, none, .w (.bslice 1 [.int .i64 0] [(0, (.t 38))])⟩,
         ⟨some 40, none, .w (.append 1 (.t 35) (.t 39))⟩,
         ⟨some 8, none, .d (.mv (.t 40))⟩]) (.skip)))
      (.seq (.reg [⟨some 41, none, .d (.mv (.t 8))⟩,
        ⟨some 4, none, .d (.mv (.t 41))⟩])
      (.ret))) (.skip)))) (.skip)))))))
  (.seq (.seq (.reg [⟨some 42, none, .d (.mv (.t 0))⟩,
    ⟨some 43, none, .w (.bslice 1 [.int .i64 0, .int .i64 0, .int .i64 0, .int .i64 0, .int .i64 0, .int .i64 0, .int .i64 0, .int .i64 0] [(0, (.c (.int .i64 3))), (1, (.c (.int .i64 4))), (2, (.c (.int .i64 2))), (3, (.c (.int .i64 6))), (4, (.c (.int .i64 1))), (5, (.c (.int .i64 0))), (6, (.c (.int .i64 9))), (7, (.c (.int .i64 14)))])⟩,
    ⟨some 44, none, .w (.callL (.f f_among) [(.t 42), (.t 43)] [1000000] 0 true)⟩,
    ⟨some 10, none, .d (.mv (.t 44))⟩])
  (.block 1 (.loop (.seq (.seq (.reg [⟨some 45, none, .d (.mv (.t 10))⟩,
      ⟨some 46, none, .d (.bin .arith .gtr (.t 45) (.c (.int .i64 0)))⟩])
    (.cond (.t 46) (.skip) (.exit 1)))
    (.seq (.block 2 (.reg [⟨some 49, none, .d (.mv (.t 5))⟩,
       ⟨some 50, none, .d (.mv (.t 0))⟩,
       ⟨some 51, none, .d (.mv (.t 1))⟩,
       ⟨some 52, none, .w (.callL (.f f_question) [(.t 50), (.t 51)] [1000000] 0 false)⟩,
       ⟨some 53, none, .w (.bslice 1 [.int .i64 0] [(0, (.t 52))])⟩,
       ⟨some 54, none, .w (.append 1 (.t 49) (.t 53))⟩,
       ⟨some 5, none, .d (.mv (.t 54))⟩]))
    (.reg [⟨some 47, none, .d (.mv (.t 10))⟩,
      ⟨some 48, none, .d (.bin .arith .sub (.t 47) (.c (.int .i64 1)))⟩,
      ⟨some 10, none, .d (.mv (.t 48))⟩]))))))
  (.seq (.seq (.reg [⟨some 55, none, .d (.mv (.t 0))⟩,
    ⟨some 56, none, .w (.callL (.f f_one) [(.t 55), (.c (.int .i64 40))] [1000000] 0 false)⟩])
  (.cond (.t 56) (.block 3 (.loop (.seq (.seq (.reg [⟨some 57, none, .d (.mv (.t 5))⟩,
       ⟨some 58, none, .d (.len (.t 57))⟩,
       ⟨some 59, none, .d (.bin .arith .lss (.t 58) (.c (.int .i64 15)))⟩])
     (.cond (.t 59) (.skip) (.exit 3)))
     (.block 4 (.reg [⟨some 60, none, .d (.mv (.t 5))⟩,
        ⟨some 61, none, .w (.bslice 1 [.int .i64 0] [(0, (.c (.int .i64 1)))])⟩,
        ⟨some 62, none, .w (.append 1 (.t 60) (.t 61))⟩,
        ⟨some 5, none, .d (.mv (.t 62))⟩]))))) (.skip)))
  (.seq (.reg [⟨some 63, none, .d (.mv (.t 5))⟩,
    ⟨some 4, none, .d (.mv (.t 63))⟩])
  (.ret)))))), [.tmp 4]⟩
def n_scheme5 : Nat → Option Ann := fun d => if d = 13 then some ⟨[1000000], 0, false⟩ else if d = 19 then some ⟨[1000000], 0, false⟩ else if d = 20 then some ⟨[], 1, false⟩ else if d = 29 then some ⟨[], 1, false⟩ else if d = 34 then some ⟨[1000000], 0, false⟩ else if d = 38 then some ⟨[1000000], 0, false⟩ else if d = 44 then some ⟨[1000000], 0, true⟩ else if d = 52 then some ⟨[1000000], 0, false⟩ else if d = 56 then some ⟨[1000000], 0, false⟩ else none
abbrev k_scheme5 : List Nat := [0, 1, 4, 5, 6, 7, 8, 9, 10, 13, 14, 23, 25, 32, 34, 46, 56, 59]
abbrev o_scheme5 : List Nat := [11, 20, 29, 39, 40, 43, 53, 54, 61, 62]
def c_scheme5 : Con
  | [.bx 1000000 0, .p (.int .i64 n)], [.box [.p v, .p (.int .i64 a), .p (.int .u64 s)]] => match slU v with
    | some l => if 0 ≤ a ∧ a ≤ 700 then some (.ar 2000000, [.box [.p v, .p (.int .i64 (sc5 l n (a, s)).2.1), .p (.int .u64 (sc5 l n (a, s)).2.2)]], [.arr 1 (ints (sc5 l n (a, s)).1)]) else none
    | none => none
  | _, _ => none
theorem s_scheme5 {P : Program} (hm : P.follows .mixedOrders = true) {Γ : Gam} (hΓ : GS P Γ) {n : FuncId} {f_pick : FuncId} {f_GreedyScheme : FuncId} {f_BitScheme : FuncId} {f_one : FuncId} {f_question : FuncId} {f_among : FuncId} (is : Is P n (a_scheme5 f_pick f_GreedyScheme f_BitScheme f_one f_question f_among)) (h_pick : Γ f_pick = c_pick) (h_GreedyScheme : Γ f_GreedyScheme = c_GreedyScheme) (h_BitScheme : Γ f_BitScheme = c_BitScheme) (h_one : Γ f_one = c_one) (h_question : Γ f_question = c_question) (h_among : Γ f_among = c_among)  : Says P n c_scheme5 := by
  intro args ext r ext' fs h
  unfold c_scheme5 at h
  split at h
  case h_2 => cases h
  rename_i n' v a s
  split at h
  case h_2 => cases h
  rename_i l hv
  split at h
  case isFalse => cases h
  rename_i hc
  obtain ⟨h0, h1⟩ := hc
  simp only [Option.some.injEq, Prod.mk.injEq] at h
  obtain ⟨rfl, rfl, rfl⟩ := h
  have hl := (slU_out hv).2
  have h1' : a ≤ 1000 := by omega
  have ha0 : CuA (a, s) 700 := ⟨h0, h1⟩
  have hz0 : ([] : List PV) = ints (qlI l n' (0, 0) 0).1 := rfl
  have g4 := ha0.pk l 4
  have p4 := g4.1
  have p4' : (pkC l 4 (a, s)).1 ≤ 1000 := by have := g4.2; omega
  have g3 := g4.pk l 3
  have p3 := g3.1
  have p3' : (pkC l 3 (pkC l 4 (a, s))).1 ≤ 1000 := by have := g3.2; omega
  have g2 := g4.pk l 2
  have p2 := g2.1
  have p2' : (pkC l 2 (pkC l 4 (a, s))).1 ≤ 900 := by have := g2.2; omega
  refine is.goX hm hΓ k_scheme5 (1000000 :: o_scheme5) (by simp [a_scheme5]) (by simp) ?_
  by_cases z0 : pkV l 4 (a, s) = 0
  · have z0' : (pkV l 4 (a, s) == 0) = true := by simp [z0]
    cases hg : gsR n' (pkV l 3 (pkC l 4 (a, s))) with
    | some x =>
      have hR1 : sc5 l n' (a, s) = (x, pkC l 3 (pkC l 4 (a, s))) := by simp only [sc5, z0, if_true, hg]
      rw [hR1]
      simp only [a_scheme5, z0', hv, h0, h1', p4, p4', hg, gsO, h_pick, c_pick, h_GreedyScheme, c_GreedyScheme, cuEta, (by decide : (4 : Int) ≤ 200), (by decide : (3 : Int) ≤ 200), List.zipIdx_cons, List.zipIdx_nil, ↓SP, SQ, Gam.add, stepM, callC, argC, lendO, nmBy, nmC, likeL, likeB, plainOb, offs, exL, X, F, trP, trO, stepD, stepW, newA, SV.tr, SV.trL, fz, allP, Ob.tr, loadA, cellsA, SV.cells, binA, binI, eqOut, isSl, isPt, natOf, callee, snap, SV.refsL, SV.refs, thaw, fzAll, loA, hiA, elemOf, partsA, buildA, putCells, ↓reduceIte, reduceCtorEq, okCell, Nat.reduceAdd, Nat.reduceEqDiff, Nat.reduceSub, Nat.reduceMul, Nat.reduceLeDiff, Nat.reduceLT, Nat.reduceBEq, PV.scal, PV.scalL, SV.scal, SV.scalL, Ob.scal, PV.isCell, pure', resO]
      refine finA_gen [20] trivial (by simp [retA, rvA, mkE_cons, mk_nil, mkO_cons, mkO_nil, loadA, SV.tr, SV.trL, nmF, rn_nil, rn_cons1, rn_cons2, plainOb, SV.refsL, SV.refs, Ob.refs, X, F, List.range_succ, mkO, setO_mk]; rfl) ?_ ?_ ?_ ?_ ?_ ?_ ?_ <;> simp [retA, rvA, mkE_cons, mk_nil, mkO_cons, mkO_nil, loadA, SV.tr, SV.trL, nmF, rn_nil, rn_cons1, rn_cons2, plainOb, SV.refsL, SV.refs, Ob.refs, X, F, List.range_succ, mkO, setO_mk]
    | none =>
      have hR1 : sc5 l n' (a, s) = restR l n' (pkC l 3 (pkC l 4 (a, s))) := by simp only [sc5, z0, if_true, hg]
      have haq := g3
      simp only [a_scheme5, z0', hv, h0, h1', p4, p4', hg, gsO, h_pick, c_pick, h_GreedyScheme, c_GreedyScheme, cuEta, (by decide : (4 : Int) ≤ 200), (by decide : (3 : Int) ≤ 200), List.zipIdx_cons, List.zipIdx_nil, ↓SP, SQ, Gam.add, stepM, callC, argC, lendO, nmBy, nmC, likeL, likeB, plainOb, offs, exL, X, F, trP, trO, stepD, stepW, newA, SV.tr, SV.trL, fz, allP, Ob.tr, loadA, cellsA, SV.cells, binA, binI, eqOut, isSl, isPt, natOf, callee, snap, SV.refsL, SV.refs, thaw, fzAll, loA, hiA, elemOf, partsA, buildA, putCells, ↓reduceIte, reduceCtorEq, okCell, Nat.reduceAdd, Nat.reduceEqDiff, Nat.reduceSub, Nat.reduceMul, Nat.reduceLeDiff, Nat.reduceLT, Nat.reduceBEq, PV.scal, PV.scalL, SV.scal, SV.scalL, Ob.scal, PV.isCell, pure', resO]
      obtain ⟨c0, hc0⟩ : ∃ c0, pkC l 3 (pkC l 4 (a, s)) = c0 := ⟨_, rfl⟩
      have ha1 : CuA c0 702 := by rw [← hc0]; exact haq
      have hmm := amV_mem hl (xs := [3, 4, 2, 6, 1, 0, 9, 14]) (c := c0) ha1.1 (by decide)
      have hmb : 0 ≤ amV l [3, 4, 2, 6, 1, 0, 9, 14] c0 ∧ amV l [3, 4, 2, 6, 1, 0, 9, 14] c0 ≤ 14 := (by decide : ∀ x ∈ ([3, 4, 2, 6, 1, 0, 9, 14] : List Int), 0 ≤ x ∧ x ≤ 14) _ hmm
      obtain ⟨m, hm1⟩ : ∃ m : Nat, amV l [3, 4, 2, 6, 1, 0, 9, 14] c0 = m := ⟨(amV l [3, 4, 2, 6, 1, 0, 9, 14] c0).toNat, by omega⟩
      have hm2 : m ≤ 14 := by omega
      have q1 := ha1.1
      have q1' : c0.1 ≤ 1000 := by have := ha1.2; omega
      have ha2 := ha1.pk l 8
      have hrest : restR l n' c0 = (if pkV l 40 (qlI l n' (pkC l 8 c0) m).2 = 0 then padL (qlI l n' (pkC l 8 c0) m).1 else (qlI l n' (pkC l 8 c0) m).1, pkC l 40 (qlI l n' (pkC l 8 c0) m).2) := by simp only [restR, hm1, Int.toNat_natCast]
      obtain ⟨c1, hc1⟩ : ∃ c1, pkC l 8 c0 = c1 := ⟨_, rfl⟩
      rw [hc1] at hrest ha2
      rw [hc0] at hR1
      obtain ⟨L, hL⟩ : ∃ L, (if pkV l 40 (qlI l n' c1 m).2 = 0 then padL (qlI l n' c1 m).1 else (qlI l n' c1 m).1) = L := ⟨_, rfl⟩
      rw [hL] at hrest
      rw [hR1, hrest]
      simp only [hc0, hc1, hm1, hv, q1, q1', h_among, c_among, isI, ofI, cuEta, Int.cast_ofNat_Int, ↓SP, SQ, Gam.add, stepM, callC, argC, lendO, nmBy, nmC, likeL, likeB, plainOb, offs, exL, X, F, trP, trO, stepD, stepW, newA, SV.tr, SV.trL, fz, allP, Ob.tr, loadA, cellsA, SV.cells, binA, binI, eqOut, isSl, isPt, natOf, callee, snap, SV.refsL, SV.refs, thaw, fzAll, loA, hiA, elemOf, partsA, buildA, putCells, ↓reduceIte, reduceCtorEq, okCell, Nat.reduceAdd, Nat.reduceEqDiff, Nat.reduceSub, Nat.reduceMul, Nat.reduceLeDiff, Nat.reduceLT, Nat.reduceBEq, PV.scal, PV.scalL, SV.scal, SV.scalL, Ob.scal, PV.isCell, pure', resO]
      refine loop_at (fun st : Nat × SV × Option Ob => mkEnv [(0, .bx 1000000 0), (1, si n'), (4, .p .nilsl), (5, .ar 11), (6, .ar 20), (7, sb false), (8, .junk), (9, .junk), (10, si ((m - st.1 : Nat) : Int)), (13, si (pkV l 4 (a, s))), (14, sb true), (23, sb false), (25, .junk), (32, .junk), (34, .junk), (46, st.2.1), (56, .junk), (59, .junk)]) (fun st => mkO [(1000000, some (.box [.p v, .p (.int .i64 (qlI l n' c1 st.1).2.1), .p (.int .u64 (qlI l n' c1 st.1).2.2)])), (11, some (.arr 1 (ints (qlI l n' c1 st.1).1))), (20, some (.arr 1 [])), (29, none), (39, none), (40, none), (43, none), (53, st.2.2), (54, none), (61, none), (62, none)]) (fun st => st.1 ≤ m) (fun st => m - st.1) (0, .junk, none) (by simp) rfl rfl ?_
      rintro ⟨i, d1, o1⟩ hi R hR hN
      simp only at hi
      have hat := qlI_at (l := l) (n := n') (c := c1) ha2 i
      have q2 := hat.1
      have hlen := qlI_len l n' c1 i
      by_cases hlt : i < m
      · have h3 : ((m - i : Nat) : Int) > 0 := by omega
        have hw : IntKind.i64.wrap (((m - i : Nat) : Int) - 1) = ((m - (i + 1) : Nat) : Int) := by rw [wrap64 (by omega) (by omega)]; omega
        have q2' : (qlI l n' c1 i).2.1 ≤ 900 := by have := hat.2; omega
        have hr : i + 1 ≤ roomA := Nat.le_trans (by omega) (by decide : 15 ≤ roomA)
        have e1 : (qlI l n' c1 i).1 ++ [(qsR l n' (qlI l n' c1 i).2).1] = (qlI l n' c1 (i + 1)).1 := rfl
        have e2 : (qsR l n' (qlI l n' c1 i).2).2 = (qlI l n' c1 (i + 1)).2 := rfl
        simp only [h3, hw, hv, q2, q2', hlen, hr, h_question, c_question, cuEta, ints_len, ints_app1, e1, e2, ints_cell, ↓SP, SQ, Gam.add, stepM, callC, argC, lendO, nmBy, nmC, likeL, likeB, plainOb, offs, exL, X, F, trP, trO, stepD, stepW, newA, SV.tr, SV.trL, fz, allP, Ob.tr, loadA, cellsA, SV.cells, binA, binI, eqOut, isSl, isPt, natOf, callee, snap, SV.refsL, SV.refs, thaw, fzAll, loA, hiA, elemOf, partsA, buildA, putCells, ↓reduceIte, reduceCtorEq, okCell, Nat.reduceAdd, Nat.reduceEqDiff, Nat.reduceSub, Nat.reduceMul, Nat.reduceLeDiff, Nat.reduceLT, Nat.reduceBEq, PV.scal, PV.scalL, SV.scal, SV.scalL, Ob.scal, PV.isCell, pure', resO]
        exact hN (i + 1, _, _) _ _ (by simp only; omega) (by simp only; omega) rfl rfl
      · have he : i = m := by omega
        subst he
        have h3 : ¬ ((i - i : Nat) : Int) > 0 := by omega
        have q2' : (qlI l n' c1 i).2.1 ≤ 1000 := by have := hat.2; omega
        simp only [h3, ↓SP, SQ, Gam.add, stepM, callC, argC, lendO, nmBy, nmC, likeL, likeB, plainOb, offs, exL, X, F, trP, trO, stepD, stepW, newA, SV.tr, SV.trL, fz, allP, Ob.tr, loadA, cellsA, SV.cells, binA, binI, eqOut, isSl, isPt, natOf, callee, snap, SV.refsL, SV.refs, thaw, fzAll, loA, hiA, elemOf, partsA, buildA, putCells, ↓reduceIte, reduceCtorEq, okCell, Nat.reduceAdd, Nat.reduceEqDiff, Nat.reduceSub, Nat.reduceMul, Nat.reduceLeDiff, Nat.reduceLT, Nat.reduceBEq, PV.scal, PV.scalL, SV.scal, SV.scalL, Ob.scal, PV.isCell, pure', resO]
        refine hR _ _ _ (by intro h; cases h) ?_
        by_cases z : pkV l 40 (qlI l n' c1 i).2 = 0
        · have z' : (pkV l 40 (qlI l n' c1 i).2 == 0) = true := by simp [z]
          rw [if_pos z] at hL
          simp only [z', hv, q2, q2', h_one, c_one, cuEta, (by decide : (40 : Int) ≤ 200), ↓SP, SQ, Gam.add, stepM, callC, argC, lendO, nmBy, nmC, likeL, likeB, plainOb, offs, exL, X, F, trP, trO, stepD, stepW, newA, SV.tr, SV.trL, fz, allP, Ob.tr, loadA, cellsA, SV.cells, binA, binI, eqOut, isSl, isPt, natOf, callee, snap, SV.refsL, SV.refs, thaw, fzAll, loA, hiA, elemOf, partsA, buildA, putCells, ↓reduceIte, reduceCtorEq, okCell, Nat.reduceAdd, Nat.reduceEqDiff, Nat.reduceSub, Nat.reduceMul, Nat.reduceLeDiff, Nat.reduceLT, Nat.reduceBEq, PV.scal, PV.scalL, SV.scal, SV.scalL, Ob.scal, PV.isCell, pure', resO]
          refine loop_at (fun st : Nat × SV × Option Ob × Option Ob => mkEnv [(0, .bx 1000000 0), (1, si n'), (4, .p .nilsl), (5, .ar 11), (6, .ar 20), (7, sb false), (8, .junk), (9, .junk), (10, si ((i - i : Nat) : Int)), (13, si (pkV l 4 (a, s))), (14, sb true), (23, sb false), (25, .junk), (32, .junk), (34, .junk), (46, sb false), (56, sb true), (59, st.2.1)]) (fun st => mkO [(1000000, some (.box [.p v, .p (.int .i64 (pkC l 40 (qlI l n' c1 i).2).1), .p (.int .u64 (pkC l 40 (qlI l n' c1 i).2).2)])), (11, some (.arr 1 (ints ((qlI l n' c1 i).1 ++ List.replicate st.1 1)))), (20, some (.arr 1 [])), (29, none), (39, none), (40, none), (43, none), (53, st.2.2.2), (54, none), (61, st.2.2.1), (62, none)]) (fun st => st.1 ≤ 15 - i) (fun st => 15 - i - st.1) (0, .junk, none, o1) (by simp) rfl (by simp only [List.replicate_zero, List.append_nil]) ?_
          rintro ⟨k, d2, o2, o3⟩ hk R' hR' hN'
          simp only at hk
          have hln : ((qlI l n' c1 i).1 ++ List.replicate k 1).length = i + k := by rw [List.length_append, hlen, List.length_replicate]
          by_cases hkl : k < 15 - i
          · have h4 : ((i + k : Nat) : Int) < 15 := by omega
            have hr : i + k + 1 ≤ roomA := Nat.le_trans (by omega) (by decide : 16 ≤ roomA)
            have e3 : (qlI l n' c1 i).1 ++ List.replicate k 1 ++ [1] = (qlI l n' c1 i).1 ++ List.replicate (k + 1) 1 := by rw [List.append_assoc, ← List.replicate_succ']
            simp only [h4, hr, hln, ints_len, ints_app1, e3, ints_cell, ↓SP, SQ, Gam.add, stepM, callC, argC, lendO, nmBy, nmC, likeL, likeB, plainOb, offs, exL, X, F, trP, trO, stepD, stepW, newA, SV.tr, SV.trL, fz, allP, Ob.tr, loadA, cellsA, SV.cells, binA, binI, eqOut, isSl, isPt, natOf, callee, snap, SV.refsL, SV.refs, thaw, fzAll, loA, hiA, elemOf, partsA, buildA, putCells, ↓reduceIte, reduceCtorEq, okCell, Nat.reduceAdd, Nat.reduceEqDiff, Nat.reduceSub, Nat.reduceMul, Nat.reduceLeDiff, Nat.reduceLT, Nat.reduceBEq, PV.scal, PV.scalL, SV.scal, SV.scalL, Ob.scal, PV.isCell, pure', resO]
            exact hN' (k + 1, _, _, _) _ _ (by simp only; omega) (by simp only; omega) rfl rfl
          · have he2 : k = 15 - i := by omega
            have h4 : ¬ ((i + k : Nat) : Int) < 15 := by omega
            have hpd : padL (qlI l n' c1 i).1 = (qlI l n' c1 i).1 ++ List.replicate k 1 := by rw [padL, hlen, he2]
            rw [hpd] at hL
            simp only [h4, hln, ints_len, ↓SP, SQ, Gam.add, stepM, callC, argC, lendO, nmBy, nmC, likeL, likeB, plainOb, offs, exL, X, F, trP, trO, stepD, stepW, newA, SV.tr, SV.trL, fz, allP, Ob.tr, loadA, cellsA, SV.cells, binA, binI, eqOut, isSl, isPt, natOf, callee, snap, SV.refsL, SV.refs, thaw, fzAll, loA, hiA, elemOf, partsA, buildA, putCells, ↓reduceIte, reduceCtorEq, okCell, Nat.reduceAdd, Nat.reduceEqDiff, Nat.reduceSub, Nat.reduceMul, Nat.reduceLeDiff, Nat.reduceLT, Nat.reduceBEq, PV.scal, PV.scalL, SV.scal, SV.scalL, Ob.scal, PV.isCell, pure', resO]
            refine hR' _ _ _ (by intro h; cases h) ?_
            simp only [↓SP, SQ, Gam.add, stepM, callC, argC, lendO, nmBy, nmC, likeL, likeB, plainOb, offs, exL, X, F, trP, trO, stepD, stepW, newA, SV.tr, SV.trL, fz, allP, Ob.tr, loadA, cellsA, SV.cells, binA, binI, eqOut, isSl, isPt, natOf, callee, snap, SV.refsL, SV.refs, thaw, fzAll, loA, hiA, elemOf, partsA, buildA, putCells, ↓reduceIte, reduceCtorEq, okCell, Nat.reduceAdd, Nat.reduceEqDiff, Nat.reduceSub, Nat.reduceMul, Nat.reduceLeDiff, Nat.reduceLT, Nat.reduceBEq, PV.scal, PV.scalL, SV.scal, SV.scalL, Ob.scal, PV.isCell, pure', resO]
            refine finA_gen [11] trivial (by simp [retA, rvA, mkE_cons, mk_nil, mkO_cons, mkO_nil, loadA, SV.tr, SV.trL, nmF, rn_nil, rn_cons1, rn_cons2, plainOb, SV.refsL, SV.refs, Ob.refs, X, F, List.range_succ, mkO, setO_mk]; rfl) ?_ ?_ ?_ ?_ ?_ ?_ ?_ <;> simp [← hL, retA, rvA, mkE_cons, mk_nil, mkO_cons, mkO_nil, loadA, SV.tr, SV.trL, nmF, rn_nil, rn_cons1, rn_cons2, plainOb, SV.refsL, SV.refs, Ob.refs, X, F, List.range_succ, mkO, setO_mk]
        · have z' : (pkV l 40 (qlI l n' c1 i).2 == 0) = false := by simp [z]
          rw [if_neg z] at hL
          simp only [z', hv, q2, q2', h_one, c_one, cuEta, (by decide : (40 : Int) ≤ 200), ↓SP, SQ, Gam.add, stepM, callC, argC, lendO, nmBy, nmC, likeL, likeB, plainOb, offs, exL, X, F, trP, trO, stepD, stepW, newA, SV.tr, SV.trL, fz, allP, Ob.tr, loadA, cellsA, SV.cells, binA, binI, eqOut, isSl, isPt, natOf, callee, snap, SV.refsL, SV.refs, thaw, fzAll, loA, hiA, elemOf, partsA, buildA, putCells, ↓reduceIte, reduceCtorEq, okCell, Nat.reduceAdd, Nat.reduceEqDiff, Nat.reduceSub, Nat.reduceMul, Nat.reduceLeDiff, Nat.reduceLT, Nat.reduceBEq, PV.scal, PV.scalL, SV.scal, SV.scalL, Ob.scal, PV.isCell, pure', resO]
          refine finA_gen [11] trivial (by simp [retA, rvA, mkE_cons, mk_nil, mkO_cons, mkO_nil, loadA, SV.tr, SV.trL, nmF, rn_nil, rn_cons1, rn_cons2, plainOb, SV.refsL, SV.refs, Ob.refs, X, F, List.range_succ, mkO, setO_mk]; rfl) ?_ ?_ ?_ ?_ ?_ ?_ ?_ <;> simp [← hL, retA, rvA, mkE_cons, mk_nil, mkO_cons, mkO_nil, loadA, SV.tr, SV.trL, nmF, rn_nil, rn_cons1, rn_cons2, plainOb, SV.refsL, SV.refs, Ob.refs, X, F, List.range_succ, mkO, setO_mk]
  · have z0' : (pkV l 4 (a, s) == 0) = false := by simp [z0]
    by_cases z1 : pkV l 4 (a, s) = 1
    · have z1' : (pkV l 4 (a, s) == 1) = true := by simp [z1]
      cases hn : isN n' with
      | true =>
        by_cases z2 : pkV l 2 (pkC l 4 (a, s)) = 0
        · have z2' : (pkV l 2 (pkC l 4 (a, s)) == 0) = true := by simp [z2]
          have hR1 : sc5 l n' (a, s) = (bsL n' ++ [(qsR l n' (pkC l 2 (pkC l 4 (a, s)))).1], (qsR l n' (pkC l 2 (pkC l 4 (a, s)))).2) := by simp only [sc5, z0, if_false, z1, if_true, hn, z2]; simp
          have hbl := bsL_len n'
          have hr : (bsL n').length + 1 ≤ roomA := Nat.le_trans (by omega) (by decide : 5 ≤ roomA)
          rw [hR1]
          simp only [a_scheme5, z0', z1', z2', hv, h0, h1', p4, p4', p2, p2', hn, hr, h_pick, c_pick, h_one, c_one, h_BitScheme, c_BitScheme, h_question, c_question, cuEta, ints_len, ints_app1, ints_cell, (by decide : (4 : Int) ≤ 200), (by decide : (2 : Int) ≤ 200), List.zipIdx_cons, List.zipIdx_nil, ↓SP, SQ, Gam.add, stepM, callC, argC, lendO, nmBy, nmC, likeL, likeB, plainOb, offs, exL, X, F, trP, trO, stepD, stepW, newA, SV.tr, SV.trL, fz, allP, Ob.tr, loadA, cellsA, SV.cells, binA, binI, eqOut, isSl, isPt, natOf, callee, snap, SV.refsL, SV.refs, thaw, fzAll, loA, hiA, elemOf, partsA, buildA, putCells, ↓reduceIte, reduceCtorEq, okCell, Nat.reduceAdd, Nat.reduceEqDiff, Nat.reduceSub, Nat.reduceMul, Nat.reduceLeDiff, Nat.reduceLT, Nat.reduceBEq, PV.scal, PV.scalL, SV.scal, SV.scalL, Ob.scal, PV.isCell, pure', resO]
          refine finA_gen [29] trivial (by simp [retA, rvA, mkE_cons, mk_nil, mkO_cons, mkO_nil, loadA, SV.tr, SV.trL, nmF, rn_nil, rn_cons1, rn_cons2, plainOb, SV.refsL, SV.refs, Ob.refs, X, F, List.range_succ, mkO, setO_mk]; rfl) ?_ ?_ ?_ ?_ ?_ ?_ ?_ <;> simp [retA, rvA, mkE_cons, mk_nil, mkO_cons, mkO_nil, loadA, SV.tr, SV.trL, nmF, rn_nil, rn_cons1, rn_cons2, plainOb, SV.refsL, SV.refs, Ob.refs, X, F, List.range_succ, mkO, setO_mk]
        · have z2' : (pkV l 2 (pkC l 4 (a, s)) == 0) = false := by simp [z2]
          have hR1 : sc5 l n' (a, s) = (bsL n', pkC l 2 (pkC l 4 (a, s))) := by simp only [sc5, z0, if_false, z1, if_true, hn, z2]; simp
          rw [hR1]
          simp only [a_scheme5, z0', z1', z2', hv, h0, h1', p4, p4', hn, h_pick, c_pick, h_one, c_one, h_BitScheme, c_BitScheme, cuEta, (by decide : (4 : Int) ≤ 200), (by decide : (2 : Int) ≤ 200), List.zipIdx_cons, List.zipIdx_nil, ↓SP, SQ, Gam.add, stepM, callC, argC, lendO, nmBy, nmC, likeL, likeB, plainOb, offs, exL, X, F, trP, trO, stepD, stepW, newA, SV.tr, SV.trL, fz, allP, Ob.tr, loadA, cellsA, SV.cells, binA, binI, eqOut, isSl, isPt, natOf, callee, snap, SV.refsL, SV.refs, thaw, fzAll, loA, hiA, elemOf, partsA, buildA, putCells, ↓reduceIte, reduceCtorEq, okCell, Nat.reduceAdd, Nat.reduceEqDiff, Nat.reduceSub, Nat.reduceMul, Nat.reduceLeDiff, Nat.reduceLT, Nat.reduceBEq, PV.scal, PV.scalL, SV.scal, SV.scalL, Ob.scal, PV.isCell, pure', resO]
          refine finA_gen [29] trivial (by simp [retA, rvA, mkE_cons, mk_nil, mkO_cons, mkO_nil, loadA, SV.tr, SV.trL, nmF, rn_nil, rn_cons1, rn_cons2, plainOb, SV.refsL, SV.refs, Ob.refs, X, F, List.range_succ, mkO, setO_mk]; rfl) ?_ ?_ ?_ ?_ ?_ ?_ ?_ <;> simp [retA, rvA, mkE_cons, mk_nil, mkO_cons, mkO_nil, loadA, SV.tr, SV.trL, nmF, rn_nil, rn_cons1, rn_cons2, plainOb, SV.refsL, SV.refs, Ob.refs, X, F, List.range_succ, mkO, setO_mk]
      | false =>
        have hR1 : sc5 l n' (a, s) = restR l n' (pkC l 4 (a, s)) := by simp only [sc5, z0, if_false, z1, if_true, hn, Bool.false_eq_true]; simp
        have haq := g4
        simp only [a_scheme5, z0', z1', hv, h0, h1', hn, h_pick, c_pick, h_BitScheme, c_BitScheme, cuEta, (by decide : (4 : Int) ≤ 200), List.zipIdx_cons, List.zipIdx_nil, ↓SP, SQ, Gam.add, stepM, callC, argC, lendO, nmBy, nmC, likeL, likeB, plainOb, offs, exL, X, F, trP, trO, stepD, stepW, newA, SV.tr, SV.trL, fz, allP, Ob.tr, loadA, cellsA, SV.cells, binA, binI, eqOut, isSl, isPt, natOf, callee, snap, SV.refsL, SV.refs, thaw, fzAll, loA, hiA, elemOf, partsA, buildA, putCells, ↓reduceIte, reduceCtorEq, okCell, Nat.reduceAdd, Nat.reduceEqDiff, Nat.reduceSub, Nat.reduceMul, Nat.reduceLeDiff, Nat.reduceLT, Nat.reduceBEq, PV.scal, PV.scalL, SV.scal, SV.scalL, Ob.scal, PV.isCell, pure', resO]
        obtain ⟨c0, hc0⟩ : ∃ c0, pkC l 4 (a, s) = c0 := ⟨_, rfl⟩
        have ha1 : CuA c0 701 := by rw [← hc0]; exact haq
        have hmm := amV_mem hl (xs := [3, 4, 2, 6, 1, 0, 9, 14]) (c := c0) ha1.1 (by decide)
        have hmb : 0 ≤ amV l [3, 4, 2, 6, 1, 0, 9, 14] c0 ∧ amV l [3, 4, 2, 6, 1, 0, 9, 14] c0 ≤ 14 := (by decide : ∀ x ∈ ([3, 4, 2, 6, 1, 0, 9, 14] : List Int), 0 ≤ x ∧ x ≤ 14) _ hmm
        obtain ⟨m, hm1⟩ : ∃ m : Nat, amV l [3, 4, 2, 6, 1, 0, 9, 14] c0 = m := ⟨(amV l [3, 4, 2, 6, 1, 0, 9, 14] c0).toNat, by omega⟩
        have hm2 : m ≤ 14 := by omega
        have q1 := ha1.1
        have q1' : c0.1 ≤ 1000 := by have := ha1.2; omega
        have ha2 := ha1.pk l 8
        have hrest : restR l n' c0 = (if pkV l 40 (qlI l n' (pkC l 8 c0) m).2 = 0 then padL (qlI l n' (pkC l 8 c0) m).1 else (qlI l n' (pkC l 8 c0) m).1, pkC l 40 (qlI l n' (pkC l 8 c0) m).2) := by simp only [restR, hm1, Int.toNat_natCast]
        obtain ⟨c1, hc1⟩ : ∃ c1, pkC l 8 c0 = c1 := ⟨_, rfl⟩
        rw [hc1] at hrest ha2
        rw [hc0] at hR1
        obtain ⟨L, hL⟩ : ∃ L, (if pkV l 40 (qlI l n' c1 m).2 = 0 then padL (qlI l n' c1 m).1 else (qlI l n' c1 m).1) = L := ⟨_, rfl⟩
        rw [hL] at hrest
        rw [hR1, hrest]
        simp only [hc0, hc1, hm1, hv, q1, q1', h_among, c_among, isI, ofI, cuEta, Int.cast_ofNat_Int, ↓SP, SQ, Gam.add, stepM, callC, argC, lendO, nmBy, nmC, likeL, likeB, plainOb, offs, exL, X, F, trP, trO, stepD, stepW, newA, SV.tr, SV.trL, fz, allP, Ob.tr, loadA, cellsA, SV.cells, binA, binI, eqOut, isSl, isPt, natOf, callee, snap, SV.refsL, SV.refs, thaw, fzAll, loA, hiA, elemOf, partsA, buildA, putCells, ↓reduceIte, reduceCtorEq, okCell, Nat.reduceAdd, Nat.reduceEqDiff, Nat.reduceSub, Nat.reduceMul, Nat.reduceLeDiff, Nat.reduceLT, Nat.reduceBEq, PV.scal, PV.scalL, SV.scal, SV.scalL, Ob.scal, PV.isCell, pure', resO]
        refine loop_at (fun st : Nat × SV × Option Ob => mkEnv [(0, .bx 1000000 0), (1, si n'), (4, .p .nilsl), (5, .ar 11), (6, .junk), (7, .junk), (8, .ar 29), (9, sb false), (10, si ((m - st.1 : Nat) : Int)), (13, si (pkV l 4 (a, s))), (14, sb false), (23, .junk), (25, sb true), (32, sb false), (34, .junk), (46, st.2.1), (56, .junk), (59, .junk)]) (fun st => mkO [(1000000, some (.box [.p v, .p (.int .i64 (qlI l n' c1 st.1).2.1), .p (.int .u64 (qlI l n' c1 st.1).2.2)])), (11, some (.arr 1 (ints (qlI l n' c1 st.1).1))), (20, none), (29, some (.arr 1 (ints (bsL n')))), (39, none), (40, none), (43, none), (53, st.2.2), (54, none), (61, none), (62, none)]) (fun st => st.1 ≤ m) (fun st => m - st.1) (0, .junk, none) (by simp) rfl rfl ?_
        rintro ⟨i, d1, o1⟩ hi R hR hN
        simp only at hi
        have hat := qlI_at (l := l) (n := n') (c := c1) ha2 i
        have q2 := hat.1
        have hlen := qlI_len l n' c1 i
        by_cases hlt : i < m
        · have h3 : ((m - i : Nat) : Int) > 0 := by omega
          have hw : IntKind.i64.wrap (((m - i : Nat) : Int) - 1) = ((m - (i + 1) : Nat) : Int) := by rw [wrap64 (by omega) (by omega)]; omega
          have q2' : (qlI l n' c1 i).2.1 ≤ 900 := by have := hat.2; omega
          have hr : i + 1 ≤ roomA := Nat.le_trans (by omega) (by decide : 15 ≤ roomA)
          have e1 : (qlI l n' c1 i).1 ++ [(qsR l n' (qlI l n' c1 i).2).1] = (qlI l n' c1 (i + 1)).1 := rfl
          have e2 : (qsR l n' (qlI l n' c1 i).2).2 = (qlI l n' c1 (i + 1)).2 := rfl
          simp only [h3, hw, hv, q2, q2', hlen, hr, h_question, c_question, cuEta, ints_len, ints_app1, e1, e2, ints_cell, ↓SP, SQ, Gam.add, stepM, callC, argC, lendO, nmBy, nmC, likeL, likeB, plainOb, offs, exL, X, F, trP, trO, stepD, stepW, newA, SV.tr, SV.trL, fz, allP, Ob.tr, loadA, cellsA, SV.cells, binA, binI, eqOut, isSl, isPt, natOf, callee, snap, SV.refsL, SV.refs, thaw, fzAll, loA, hiA, elemOf, partsA, buildA, putCells, ↓reduceIte, reduceCtorEq, okCell, Nat.reduceAdd, Nat.reduceEqDiff, Nat.reduceSub, Nat.reduceMul, Nat.reduceLeDiff, Nat.reduceLT, Nat.reduceBEq, PV.scal, PV.scalL, SV.scal, SV.scalL, Ob.scal, PV.isCell, pure', resO]
          exact hN (i + 1, _, _) _ _ (by simp only; omega) (by simp only; omega) rfl rfl
        · have he : i = m := by omega
          subst he
          have h3 : ¬ ((i - i : Nat) : Int) > 0 := by omega
          have q2' : (qlI l n' c1 i).2.1 ≤ 1000 := by have := hat.2; omega
          simp only [h3, ↓SP, SQ, Gam.add, stepM, callC, argC, lendO, nmBy, nmC, likeL, likeB, plainOb, offs, exL, X, F, trP, trO, stepD, stepW, newA, SV.tr, SV.trL, fz, allP, Ob.tr, loadA, cellsA, SV.cells, binA, binI, eqOut, isSl, isPt, natOf, callee, snap, SV.refsL, SV.refs, thaw, fzAll, loA, hiA, elemOf, partsA, buildA, putCells, ↓reduceIte, reduceCtorEq, okCell, Nat.reduceAdd, Nat.reduceEqDiff, Nat.reduceSub, Nat.reduceMul, Nat.reduceLeDiff, Nat.reduceLT, Nat.reduceBEq, PV.scal, PV.scalL, SV.scal, SV.scalL, Ob.scal, PV.isCell, pure', resO]
          refine hR _ _ _ (by intro h; cases h) ?_
          by_cases z : pkV l 40 (qlI l n' c1 i).2 = 0
          · have z' : (pkV l 40 (qlI l n' c1 i).2 == 0) = true := by simp [z]
            rw [if_pos z] at hL
            simp only [z', hv, q2, q2', h_one, c_one, cuEta, (by decide : (40 : Int) ≤ 200), ↓SP, SQ, Gam.add, stepM, callC, argC, lendO, nmBy, nmC, likeL, likeB, plainOb, offs, exL, X, F, trP, trO, stepD, stepW, newA, SV.tr, SV.trL, fz, allP, Ob.tr, loadA, cellsA, SV.cells, binA, binI, eqOut, isSl, isPt, natOf, callee, snap, SV.refsL, SV.refs, thaw, fzAll, loA, hiA, elemOf, partsA, buildA, putCells, ↓reduceIte, reduceCtorEq, okCell, Nat.reduceAdd, Nat.reduceEqDiff, Nat.reduceSub, Nat.reduceMul, Nat.reduceLeDiff, Nat.reduceLT, Nat.reduceBEq, PV.scal, PV.scalL, SV.scal, SV.scalL, Ob.scal, PV.isCell, pure', resO]
            refine loop_at (fun st : Nat × SV × Option Ob × Option Ob => mkEnv [(0, .bx 1000000 0), (1, si n'), (4, .p .nilsl), (5, .ar 11), (6, .junk), (7, .junk), (8, .ar 29), (9, sb false), (10, si ((i - i : Nat) : Int)), (13, si (pkV l 4 (a, s))), (14, sb false), (23, .junk), (25, sb true), (32, sb false), (34, .junk), (46, sb false), (56, sb true), (59, st.2.1)]) (fun st => mkO [(1000000, some (.box [.p v, .p (.int .i64 (pkC l 40 (qlI l n' c1 i).2).1), .p (.int .u64 (pkC l 40 (qlI l n' c1 i).2).2)])), (11, some (.arr 1 (ints ((qlI l n' c1 i).1 ++ List.replicate st.1 1)))), (20, none), (29, some (.arr 1 (ints (bsL n')))), (39, none), (40, none), (43, none), (53, st.2.2.2), (54, none), (61, st.2.2.1), (62, none)]) (fun st => st.1 ≤ 15 - i) (fun st => 15 - i - st.1) (0, .junk, none, o1) (by simp) rfl (by simp only [List.replicate_zero, List.append_nil]) ?_
            rintro ⟨k, d2, o2, o3⟩ hk R' hR' hN'
            simp only at hk
            have hln : ((qlI l n' c1 i).1 ++ List.replicate k 1).length = i + k := by rw [List.length_append, hlen, List.length_replicate]
            by_cases hkl : k < 15 - i
            · have h4 : ((i + k : Nat) : Int) < 15 := by omega
              have hr : i + k + 1 ≤ roomA := Nat.le_trans (by omega) (by decide : 16 ≤ roomA)
              have e3 : (qlI l n' c1 i).1 ++ List.replicate k 1 ++ [1] = (qlI l n' c1 i).1 ++ List.replicate (k + 1) 1 := by rw [List.append_assoc, ← List.replicate_succ']
              simp only [h4, hr, hln, ints_len, ints_app1, e3, ints_cell, ↓SP, SQ, Gam.add, stepM, callC, argC, lendO, nmBy, nmC, likeL, likeB, plainOb, offs, exL, X, F, trP, trO, stepD, stepW, newA, SV.tr, SV.trL, fz, allP, Ob.tr, loadA, cellsA, SV.cells, binA, binI, eqOut, isSl, isPt, natOf, callee, snap, SV.refsL, SV.refs, thaw, fzAll, loA, hiA, elemOf, partsA, buildA, putCells, ↓reduceIte, reduceCtorEq, okCell, Nat.reduceAdd, Nat.reduceEqDiff, Nat.reduceSub, Nat.reduceMul, Nat.reduceLeDiff, Nat.reduceLT, Nat.reduceBEq, PV.scal, PV.scalL, SV.scal, SV.scalL, Ob.scal, PV.isCell, pure', resO]
              exact hN' (k + 1, _, _, _) _ _ (by simp only; omega) (by simp only; omega) rfl rfl
            · have he2 : k = 15 - i := by omega
              have h4 : ¬ ((i + k : Nat) : Int) < 15 := by omega
              have hpd : padL (qlI l n' c1 i).1 = (qlI l n' c1 i).1 ++ List.replicate k 1 := by rw [padL, hlen, he2]
              rw [hpd] at hL
              simp only [h4, hln, ints_len, ↓SP, SQ, Gam.add, stepM, callC, argC, lendO, nmBy, nmC, likeL, likeB, plainOb, offs, exL, X, F, trP, trO, stepD, stepW, newA, SV.tr, SV.trL, fz, allP, Ob.tr, loadA, cellsA, SV.cells, binA, binI, eqOut, isSl, isPt, natOf, callee, snap, SV.refsL, SV.refs, thaw, fzAll, loA, hiA, elemOf, partsA, buildA, putCells, ↓reduceIte, reduceCtorEq, okCell, Nat.reduceAdd, Nat.reduceEqDiff, Nat.reduceSub, Nat.reduceMul, Nat.reduceLeDiff, Nat.reduceLT, Nat.reduceBEq, PV.scal, PV.scalL, SV.scal, SV.scalL, Ob.scal, PV.isCell, pure', resO]
              refine hR' _ _ _ (by intro h; cases h) ?_
              simp only [↓SP, SQ, Gam.add, stepM, callC, argC, lendO, nmBy, nmC, likeL, likeB, plainOb, offs, exL, X, F, trP, trO, stepD, stepW, newA, SV.tr, SV.trL, fz, allP, Ob.tr, loadA, cellsA, SV.cells, binA, binI, eqOut, isSl, isPt, natOf, callee, snap, SV.refsL, SV.refs, thaw, fzAll, loA, hiA, elemOf, partsA, buildA, putCells, ↓reduceIte, reduceCtorEq, okCell, Nat.reduceAdd, Nat.reduceEqDiff, Nat.reduceSub, Nat.reduceMul, Nat.reduceLeDiff, Nat.reduceLT, Nat.reduceBEq, PV.scal, PV.scalL, SV.scal, SV.scalL, Ob.scal, PV.isCell, pure', resO]
              refine finA_gen [11] trivial (by simp [retA, rvA, mkE_cons, mk_nil, mkO_cons, mkO_nil, loadA, SV.tr, SV.trL, nmF, rn_nil, rn_cons1, rn_cons2, plainOb, SV.refsL, SV.refs, Ob.refs, X, F, List.range_succ, mkO, setO_mk]; rfl) ?_ ?_ ?_ ?_ ?_ ?_ ?_ <;> simp [← hL, retA, rvA, mkE_cons, mk_nil, mkO_cons, mkO_nil, loadA, SV.tr, SV.trL, nmF, rn_nil, rn_cons1, rn_cons2, plainOb, SV.refsL, SV.refs, Ob.refs, X, F, List.range_succ, mkO, setO_mk]
          · have z' : (pkV l 40 (qlI l n' c1 i).2 == 0) = false := by simp [z]
            rw [if_neg z] at hL
            simp only [z', hv, q2, q2', h_one, c_one, cuEta, (by decide : (40 : Int) ≤ 200), ↓SP, SQ, Gam.add, stepM, callC, argC, lendO, nmBy, nmC, likeL, likeB, plainOb, offs, exL, X, F, trP, trO, stepD, stepW, newA, SV.tr, SV.trL, fz, allP, Ob.tr, loadA, cellsA, SV.cells, binA, binI, eqOut, isSl, isPt, natOf, callee, snap, SV.refsL, SV.refs, thaw, fzAll, loA, hiA, elemOf, partsA, buildA, putCells, ↓reduceIte, reduceCtorEq, okCell, Nat.reduceAdd, Nat.reduceEqDiff, Nat.reduceSub, Nat.reduceMul, Nat.reduceLeDiff, Nat.reduceLT, Nat.reduceBEq, PV.scal, PV.scalL, SV.scal, SV.scalL, Ob.scal, PV.isCell, pure', resO]
            refine finA_gen [11] trivial (by simp [retA, rvA, mkE_cons, mk_nil, mkO_cons, mkO_nil, loadA, SV.tr, SV.trL, nmF, rn_nil, rn_cons1, rn_cons2, plainOb, SV.refsL, SV.refs, Ob.refs, X, F, List.range_succ, mkO, setO_mk]; rfl) ?_ ?_ ?_ ?_ ?_ ?_ ?_ <;> simp [← hL, retA, rvA, mkE_cons, mk_nil, mkO_cons, mkO_nil, loadA, SV.tr, SV.trL, nmF, rn_nil, rn_cons1, rn_cons2, plainOb, SV.refsL, SV.refs, Ob.refs, X, F, List.range_succ, mkO, setO_mk]
    · have z1' : (pkV l 4 (a, s) == 1) = false := by simp [z1]
      have hR1 : sc5 l n' (a, s) = restR l n' (pkC l 4 (a, s)) := by simp only [sc5, z0, if_false, z1]
      have haq := g4
      simp only [a_scheme5, z0', z1', hv, h0, h1', h_pick, c_pick, cuEta, (by decide : (4 : Int) ≤ 200), List.zipIdx_cons, List.zipIdx_nil, ↓SP, SQ, Gam.add, stepM, callC, argC, lendO, nmBy, nmC, likeL, likeB, plainOb, offs, exL, X, F, trP, trO, stepD, stepW, newA, SV.tr, SV.trL, fz, allP, Ob.tr, loadA, cellsA, SV.cells, binA, binI, eqOut, isSl, isPt, natOf, callee, snap, SV.refsL, SV.refs, thaw, fzAll, loA, hiA, elemOf, partsA, buildA, putCells, ↓reduceIte, reduceCtorEq, okCell, Nat.reduceAdd, Nat.reduceEqDiff, Nat.reduceSub, Nat.reduceMul, Nat.reduceLeDiff, Nat.reduceLT, Nat.reduceBEq, PV.scal, PV.scalL, SV.scal, SV.scalL, Ob.scal, PV.isCell, pure', resO]
      obtain ⟨c0, hc0⟩ : ∃ c0, pkC l 4 (a, s) = c0 := ⟨_, rfl⟩
      have ha1 : CuA c0 701 := by rw [← hc0]; exact haq
      have hmm := amV_mem hl (xs := [3, 4, 2, 6, 1, 0, 9, 14]) (c := c0) ha1.1 (by decide)
      have hmb : 0 ≤ amV l [3, 4, 2, 6, 1, 0, 9, 14] c0 ∧ amV l [3, 4, 2, 6, 1, 0, 9, 14] c0 ≤ 14 := (by decide : ∀ x ∈ ([3, 4, 2, 6, 1, 0, 9, 14] : List Int), 0 ≤ x ∧ x ≤ 14) _ hmm
      obtain ⟨m, hm1⟩ : ∃ m : Nat, amV l [3, 4, 2, 6, 1, 0, 9, 14] c0 = m := ⟨(amV l [3, 4, 2, 6, 1, 0, 9, 14] c0).toNat, by omega⟩
      have hm2 : m ≤ 14 := by omega
      have q1 := ha1.1
      have q1' : c0.1 ≤ 1000 := by have := ha1.2; omega
      have ha2 := ha1.pk l 8
      have hrest : restR l n' c0 = (if pkV l 40 (qlI l n' (pkC l 8 c0) m).2 = 0 then padL (qlI l n' (pkC l 8 c0) m).1 else (qlI l n' (pkC l 8 c0) m).1, pkC l 40 (qlI l n' (pkC l 8 c0) m).2) := by simp only [restR, hm1, Int.toNat_natCast]
      obtain ⟨c1, hc1⟩ : ∃ c1, pkC l 8 c0 = c1 := ⟨_, rfl⟩
      rw [hc1] at hrest ha2
      rw [hc0] at hR1
      obtain ⟨L, hL⟩ : ∃ L, (if pkV l 40 (qlI l n' c1 m).2 = 0 then padL (qlI l n' c1 m).1 else (qlI l n' c1 m).1) = L := ⟨_, rfl⟩
      rw [hL] at hrest
      rw [hR1, hrest]
      simp only [hc0, hc1, hm1, hv, q1, q1', h_among, c_among, isI, ofI, cuEta, Int.cast_ofNat_Int, ↓SP, SQ, Gam.add, stepM, callC, argC, lendO, nmBy, nmC, likeL, likeB, plainOb, offs, exL, X, F, trP, trO, stepD, stepW, newA, SV.tr, SV.trL, fz, allP, Ob.tr, loadA, cellsA, SV.cells, binA, binI, eqOut, isSl, isPt, natOf, callee, snap, SV.refsL, SV.refs, thaw, fzAll, loA, hiA, elemOf, partsA, buildA, putCells, ↓reduceIte, reduceCtorEq, okCell, Nat.reduceAdd, Nat.reduceEqDiff, Nat.reduceSub, Nat.reduceMul, Nat.reduceLeDiff, Nat.reduceLT, Nat.reduceBEq, PV.scal, PV.scalL, SV.scal, SV.scalL, Ob.scal, PV.isCell, pure', resO]
      refine loop_at (fun st : Nat × SV × Option Ob => mkEnv [(0, .bx 1000000 0), (1, si n'), (4, .p .nilsl), (5, .ar 11), (6, .junk), (7, .junk), (8, .junk), (9, .junk), (10, si ((m - st.1 : Nat) : Int)), (13, si (pkV l 4 (a, s))), (14, sb false), (23, .junk), (25, sb false), (32, .junk), (34, .junk), (46, st.2.1), (56, .junk), (59, .junk)]) (fun st => mkO [(1000000, some (.box [.p v, .p (.int .i64 (qlI l n' c1 st.1).2.1), .p (.int .u64 (qlI l n' c1 st.1).2.2)])), (11, some (.arr 1 (ints (qlI l n' c1 st.1).1))), (20, none), (29, none), (39, none), (40, none), (43, none), (53, st.2.2), (54, none), (61, none), (62, none)]) (fun st => st.1 ≤ m) (fun st => m - st.1) (0, .junk, none) (by simp) rfl rfl ?_
      rintro ⟨i, d1, o1⟩ hi R hR hN
      simp only at hi
      have hat := qlI_at (l := l) (n := n') (c := c1) ha2 i
      have q2 := hat.1
      have hlen := qlI_len l n' c1 i
      by_cases hlt : i < m
      · have h3 : ((m - i : Nat) : Int) > 0 := by omega
        have hw : IntKind.i64.wrap (((m - i : Nat) : Int) - 1) = ((m - (i + 1) : Nat) : Int) := by rw [wrap64 (by omega) (by omega)]; omega
        have q2' : (qlI l n' c1 i).2.1 ≤ 900 := by have := hat.2; omega
        have hr : i + 1 ≤ roomA := Nat.le_trans (by omega) (by decide : 15 ≤ roomA)
        have e1 : (qlI l n' c1 i).1 ++ [(qsR l n' (qlI l n' c1 i).2).1] = (qlI l n' c1 (i + 1)).1 := rfl
        have e2 : (qsR l n' (qlI l n' c1 i).2).2 = (qlI l n' c1 (i + 1)).2 := rfl
        simp only [h3, hw, hv, q2, q2', hlen, hr, h_question, c_question, cuEta, ints_len, ints_app1, e1, e2, ints_cell, ↓SP, SQ, Gam.add, stepM, callC, argC, lendO, nmBy, nmC, likeL, likeB, plainOb, offs, exL, X, F, trP, trO, stepD, stepW, newA, SV.tr, SV.trL, fz, allP, Ob.tr, loadA, cellsA, SV.cells, binA, binI, eqOut, isSl, isPt, natOf, callee, snap, SV.refsL, SV.refs, thaw, fzAll, loA, hiA, elemOf, partsA, buildA, putCells, ↓reduceIte, reduceCtorEq, okCell, Nat.reduceAdd, Nat.reduceEqDiff, Nat.reduceSub, Nat.reduceMul, Nat.reduceLeDiff, Nat.reduceLT, Nat.reduceBEq, PV.scal, PV.scalL, SV.scal, SV.scalL, Ob.scal, PV.isCell, pure', resO]
        exact hN (i + 1, _, _) _ _ (by simp only; omega) (by simp only; omega) rfl rfl
      · have he : i = m := by omega
        subst he
        have h3 : ¬ ((i - i : Nat) : Int) > 0 := by omega
        have q2' : (qlI l n' c1 i).2.1 ≤ 1000 := by have := hat.2; omega
        simp only [h3, ↓SP, SQ, Gam.add, stepM, callC, argC, lendO, nmBy, nmC, likeL, likeB, plainOb, offs, exL, X, F, trP, trO, stepD, stepW, newA, SV.tr, SV.trL, fz, allP, Ob.tr, loadA, cellsA, SV.cells, binA, binI, eqOut, isSl, isPt, natOf, callee, snap, SV.refsL, SV.refs, thaw, fzAll, loA, hiA, elemOf, partsA, buildA, putCells, ↓reduceIte, reduceCtorEq, okCell, Nat.reduceAdd, Nat.reduceEqDiff, Nat.reduceSub, Nat.reduceMul, Nat.reduceLeDiff, Nat.reduceLT, Nat.reduceBEq, PV.scal, PV.scalL, SV.scal, SV.scalL, Ob.scal, PV.isCell, pure', resO]
        refine hR _ _ _ (by intro h; cases h) ?_
        by_cases z : pkV l 40 (qlI l n' c1 i).2 = 0
        · have z' : (pkV l 40 (qlI l n' c1 i).2 == 0) = true := by simp [z]
          rw [if_pos z] at hL
          simp only [z', hv, q2, q2', h_one, c_one, cuEta, (by decide : (40 : Int) ≤ 200), ↓SP, SQ, Gam.add, stepM, callC, argC, lendO, nmBy, nmC, likeL, likeB, plainOb, offs, exL, X, F, trP, trO, stepD, stepW, newA, SV.tr, SV.trL, fz, allP, Ob.tr, loadA, cellsA, SV.cells, binA, binI, eqOut, isSl, isPt, natOf, callee, snap, SV.refsL, SV.refs, thaw, fzAll, loA, hiA, elemOf, partsA, buildA, putCells, ↓reduceIte, reduceCtorEq, okCell, Nat.reduceAdd, Nat.reduceEqDiff, Nat.reduceSub, Nat.reduceMul, Nat.reduceLeDiff, Nat.reduceLT, Nat.reduceBEq, PV.scal, PV.scalL, SV.scal, SV.scalL, Ob.scal, PV.isCell, pure', resO]
          refine loop_at (fun st : Nat × SV × Option Ob × Option Ob => mkEnv [(0, .bx 1000000 0), (1, si n'), (4, .p .nilsl), (5, .ar 11), (6, .junk), (7, .junk), (8, .junk), (9, .junk), (10, si ((i - i : Nat) : Int)), (13, si (pkV l 4 (a, s))), (14, sb false), (23, .junk), (25, sb false), (32, .junk), (34, .junk), (46, sb false), (56, sb true), (59, st.2.1)]) (fun st => mkO [(1000000, some (.box [.p v, .p (.int .i64 (pkC l 40 (qlI l n' c1 i).2).1), .p (.int .u64 (pkC l 40 (qlI l n' c1 i).2).2)])), (11, some (.arr 1 (ints ((qlI l n' c1 i).1 ++ List.replicate st.1 1)))), (20, none), (29, none), (39, none), (40, none), (43, none), (53, st.2.2.2), (54, none), (61, st.2.2.1), (62, none)]) (fun st => st.1 ≤ 15 - i) (fun st => 15 - i - st.1) (0, .junk, none, o1) (by simp) rfl (by simp only [List.replicate_zero, List.append_nil]) ?_
          rintro ⟨k, d2, o2, o3⟩ hk R' hR' hN'
          simp only at hk
          have hln : ((qlI l n' c1 i).1 ++ List.replicate k 1).length = i + k := by rw [List.length_append, hlen, List.length_replicate]
          by_cases hkl : k < 15 - i
          · have h4 : ((i + k : Nat) : Int) < 15 := by omega
            have hr : i + k + 1 ≤ roomA := Nat.le_trans (by omega) (by decide : 16 ≤ roomA)
            have e3 : (qlI l n' c1 i).1 ++ List.replicate k 1 ++ [1] = (qlI l n' c1 i).1 ++ List.replicate (k + 1) 1 := by rw [List.append_assoc, ← List.replicate_succ']
            simp only [h4, hr, hln, ints_len, ints_app1, e3, ints_cell, ↓SP, SQ, Gam.add, stepM, callC, argC, lendO, nmBy, nmC, likeL, likeB, plainOb, offs, exL, X, F, trP, trO, stepD, stepW, newA, SV.tr, SV.trL, fz, allP, Ob.tr, loadA, cellsA, SV.cells, binA, binI, eqOut, isSl, isPt, natOf, callee, snap, SV.refsL, SV.refs, thaw, fzAll, loA, hiA, elemOf, partsA, buildA, putCells, ↓reduceIte, reduceCtorEq, okCell, Nat.reduceAdd, Nat.reduceEqDiff, Nat.reduceSub, Nat.reduceMul, Nat.reduceLeDiff, Nat.reduceLT, Nat.reduceBEq, PV.scal, PV.scalL, SV.scal, SV.scalL, Ob.scal, PV.isCell, pure', resO]
            exact hN' (k + 1, _, _, _) _ _ (by simp only; omega) (by simp only; omega) rfl rfl
          · have he2 : k = 15 - i := by omega
            have h4 : ¬ ((i + k : Nat) : Int) < 15 := by omega
            have hpd : padL (qlI l n' c1 i).1 = (qlI l n' c1 i).1 ++ List.replicate k 1 := by rw [padL, hlen, he2]
            rw [hpd] at hL
            simp only [h4, hln, ints_len, ↓SP, SQ, Gam.add, stepM, callC, argC, lendO, nmBy, nmC, likeL, likeB, plainOb, offs, exL, X, F, trP, trO, stepD, stepW, newA, SV.tr, SV.trL, fz, allP, Ob.tr, loadA, cellsA, SV.cells, binA, binI, eqOut, isSl, isPt, natOf, callee, snap, SV.refsL, SV.refs, thaw, fzAll, loA, hiA, elemOf, partsA, buildA, putCells, ↓reduceIte, reduceCtorEq, okCell, Nat.reduceAdd, Nat.reduceEqDiff, Nat.reduceSub, Nat.reduceMul, Nat.reduceLeDiff, Nat.reduceLT, Nat.reduceBEq, PV.scal, PV.scalL, SV.scal, SV.scalL, Ob.scal, PV.isCell, pure', resO]
            refine hR' _ _ _ (by intro h; cases h) ?_
            simp only [↓SP, SQ, Gam.add, stepM, callC, argC, lendO, nmBy, nmC, likeL, likeB, plainOb, offs, exL, X, F, trP, trO, stepD, stepW, newA, SV.tr, SV.trL, fz, allP, Ob.tr, loadA, cellsA, SV.cells, binA, binI, eqOut, isSl, isPt, natOf, callee, snap, SV.refsL, SV.refs, thaw, fzAll, loA, hiA, elemOf, partsA, buildA, putCells, ↓reduceIte, reduceCtorEq, okCell, Nat.reduceAdd, Nat.reduceEqDiff, Nat.reduceSub, Nat.reduceMul, Nat.reduceLeDiff, Nat.reduceLT, Nat.reduceBEq, PV.scal, PV.scalL, SV.scal, SV.scalL, Ob.scal, PV.isCell, pure', resO]
            refine finA_gen [11] trivial (by simp [retA, rvA, mkE_cons, mk_nil, mkO_cons, mkO_nil, loadA, SV.tr, SV.trL, nmF, rn_nil, rn_cons1, rn_cons2, plainOb, SV.refsL, SV.refs, Ob.refs, X, F, List.range_succ, mkO, setO_mk]; rfl) ?_ ?_ ?_ ?_ ?_ ?_ ?_ <;> simp [← hL, retA, rvA, mkE_cons, mk_nil, mkO_cons, mkO_nil, loadA, SV.tr, SV.trL, nmF, rn_nil, rn_cons1, rn_cons2, plainOb, SV.refsL, SV.refs, Ob.refs, X, F, List.range_succ, mkO, setO_mk]
        · have z' : (pkV l 40 (qlI l n' c1 i).2 == 0) = false := by simp [z]
          rw [if_neg z] at hL
          simp only [z', hv, q2, q2', h_one, c_one, cuEta, (by decide : (40 : Int) ≤ 200), ↓SP, SQ, Gam.add, stepM, callC, argC, lendO, nmBy, nmC, likeL, likeB, plainOb, offs, exL, X, F, trP, trO, stepD, stepW, newA, SV.tr, SV.trL, fz, allP, Ob.tr, loadA, cellsA, SV.cells, binA, binI, eqOut, isSl, isPt, natOf, callee, snap, SV.refsL, SV.refs, thaw, fzAll, loA, hiA, elemOf, partsA, buildA, putCells, ↓reduceIte, reduceCtorEq, okCell, Nat.reduceAdd, Nat.reduceEqDiff, Nat.reduceSub, Nat.reduceMul, Nat.reduceLeDiff, Nat.reduceLT, Nat.reduceBEq, PV.scal, PV.scalL, SV.scal, SV.scalL, Ob.scal, PV.isCell, pure', resO]
          refine finA_gen [11] trivial (by simp [retA, rvA, mkE_cons, mk_nil, mkO_cons, mkO_nil, loadA, SV.tr, SV.trL, nmF, rn_nil, rn_cons1, rn_cons2, plainOb, SV.refsL, SV.refs, Ob.refs, X, F, List.range_succ, mkO, setO_mk]; rfl) ?_ ?_ ?_ ?_ ?_ ?_ ?_ <;> simp [← hL, retA, rvA, mkE_cons, mk_nil, mkO_cons, mkO_nil, loadA, SV.tr, SV.trL, nmF, rn_nil, rn_cons1, rn_cons2, plainOb, SV.refsL, SV.refs, Ob.refs, X, F, List.range_succ, mkO, setO_mk]
end Go.Proofs.Ytmbljmolegalhaa.Pam
