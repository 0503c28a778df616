/- A part of the proof that stands in this folder: a small machine whose steps are shown to be the steps of the model, or walks of functions by it. No condition of its own. -/
import Derived.Test.YtmbljmolegalhaaGbQF
set_option linter.unusedVariables false
set_option linter.unusedSimpArgs false
namespace Go.Proofs.Ytmbljmolegalhaa.Pam
open Go
theorem frac_one {B : Nat} (h : 0 < B) : frN B B = 1 ∧ frD B B = 1 := by
  simp only [frN, frD, Nat.gcd_self, Nat.div_self h, Int.natCast_one, and_self]
def vlOk (P S : Int × Int) : Prop := (0 ≤ P.1 ∧ 1 ≤ P.2 ∧ 0 ≤ S.1 ∧ 1 ≤ S.2 ∧ P.2 ≤ 4000000000000000000 ∧ S.2 ≤ 4000000000000000000 ∧ P.1.toNat * (S.2.toNat / Nat.gcd P.2.toNat S.2.toNat) ≤ 4000000000000000000 ∧ S.1.toNat * (P.2.toNat / Nat.gcd P.2.toNat S.2.toNat) ≤ 4000000000000000000) ∧
  decide (P.1.toNat * (S.2.toNat / Nat.gcd P.2.toNat S.2.toNat) < S.1.toNat * (P.2.toNat / Nat.gcd P.2.toNat S.2.toNat)) = false
theorem vl_gen {a b c d : Nat} (q1 : 0 < b) (q2 : 0 < d) (q3 : b ≤ 4000000000000000000) (q4 : d ≤ 4000000000000000000) (q5 : a * (d / Nat.gcd b d) ≤ 4000000000000000000) (q6 : c * (b / Nat.gcd b d) ≤ 4000000000000000000) (h6 : ¬ a * (d / Nat.gcd b d) < c * (b / Nat.gcd b d)) : vlOk ((a : Int), (b : Int)) ((c : Int), (d : Int)) := by
  simp only [vlOk, Int.toNat_natCast]
  exact ⟨⟨Int.natCast_nonneg _, by omega, Int.natCast_nonneg _, by omega, by omega, by omega, q5, q6⟩, dec_f h6⟩
theorem vl_of {R B c d : Nat} (hB : 0 < B) (hd : 0 < d) (hdB : d ∣ B) (hRB : R ≤ B) (hcd : c ≤ d) (hle : c * B ≤ R * d) (hm : B ≤ 4000000000000000000) : vlOk (frN R B, frD R B) ((c : Int), (d : Int)) := by
  obtain ⟨h1, h2, h3, h4, h5, h6⟩ := frac_le hB hd hdB hRB hcd hle
  have hdm := Nat.le_of_dvd hB hdB
  exact vl_gen h2 hd (Nat.le_trans h3 hm) (Nat.le_trans hdm hm) (Nat.le_trans h4 hm) (Nat.le_trans h5 hm) h6
theorem vl_1 {R B : Nat} (hB : 0 < B) (hRB : R ≤ B) (hm : B ≤ 4000000000000000000) : vlOk (1, 1) (frN R B, frD R B) := by
  obtain ⟨h1, h2, h3, _⟩ := frac_le (d := 1) (c := 0) hB (by omega) (Nat.one_dvd _) hRB (by omega) (by omega)
  have e : ((1 : Int), (1 : Int)) = (((1 : Nat) : Int), ((1 : Nat) : Int)) := rfl
  rw [e]
  refine vl_gen (by omega) h2 (by omega) (Nat.le_trans h3 hm) ?_ ?_ ?_ <;> rw [Nat.gcd_one_left, Nat.div_one] <;> omega
structure Dc (n : Int) (l : List Int) (s o : Int) (R : Nat) : Prop where
  le : R ≤ n.toNat * o.toNat ^ l.length
  pos : 0 < n.toNat * o.toNat ^ l.length
  big : n.toNat * o.toNat ^ l.length ≤ 4000000000000000000
  one : n = 1 → R = o.toNat ^ l.length
  ge : n ≠ 1 → gapN n l ≠ 0 → n.toNat * saX n l s o ≤ R
  deq : deP n l s o = (frN R (n.toNat * o.toNat ^ l.length), frD R (n.toNat * o.toNat ^ l.length))
theorem dc_of {n : Int} {l : List Int} {s o : Int} (h : okS n l s o = true) : Dc n l s o (dcN s o l n.toNat (2 ^ l.length)) := by
  obtain ⟨n1, n2, l1, hd⟩ := okS_out h
  obtain ⟨d1, d2, d3, d4⟩ := isD_out hd
  have hp := pow_le (b := o.toNat) (e := l.length) (by omega) l1
  have hpos : 0 < o.toNat ^ l.length := Nat.pow_pos (by omega)
  have hB : n.toNat * o.toNat ^ l.length ≤ 12 * o.toNat ^ l.length := Nat.mul_le_mul_right _ (by omega)
  refine ⟨dec_le (by omega) (by omega) l1 (by omega), Nat.mul_pos (by omega) hpos, by omega, fun e => ?_, fun e1 e2 => ?_, ?_⟩
  · subst e
    exact dec_1 (by omega) (by omega) l1
  · have hg := gO_le l (n := n.toNat) n.toNat (Nat.le_refl _)
    have hg0 : gO (wdL l n.toNat) n.toNat = gapN n l := rfl
    rw [hg0] at hg
    have ht : (gapN n l - 1).tdiv 2 = (gapN n l - 1) / 2 := Int.tdiv_eq_ediv_of_nonneg (by omega)
    refine dec_ge (t := ((gapN n l - 1).tdiv 2).toNat) l1 (by omega) (by rw [ht]; omega) fun i j hi hj hij => ?_
    have := gap_ap (l := l) hi hj hij
    rw [hg0] at this
    rw [ht]; omega
  · have e : (n * ((o.toNat ^ l.length : Nat) : Int)).toNat = n.toNat * o.toNat ^ l.length := by
      obtain ⟨k, rfl⟩ : ∃ k : Nat, n = k := ⟨n.toNat, by omega⟩
      rw [← Int.natCast_mul, Int.toNat_natCast, Int.toNat_natCast]
    rw [deP, if_pos h, e]
theorem inB_mono (s o m : Nat) {a : Nat} : ∀ b, inB s o m a ≤ inB s o m (a + b)
  | 0 => Nat.le_refl _
  | b + 1 => Nat.le_trans (inB_mono s o m b) (by rw [← Nat.add_assoc, inB]; omega)
theorem dc_all {n : Int} {l : List Int} {s o : Int} (h : okS n l s o = true) : vlOk (deP n l s o) (saP n l s o) ∧ vlOk (1, 1) (deP n l s o) ∧ (s = 0 → (gapN n l ≠ 0 ∨ n = 1) → deP n l s o = (1, 1) ∧ saP n l s o = (1, 1)) := by
  have D := dc_of h
  obtain ⟨n1, n2, l1, hd⟩ := okS_out h
  obtain ⟨d1, d2, d3, d4⟩ := isD_out hd
  generalize dcN s o l n.toNat (2 ^ l.length) = R at D
  have hpos : 0 < o.toNat ^ l.length := Nat.pow_pos (by omega)
  refine ⟨?_, ?_, fun hs hgn => ?_⟩
  · rw [D.deq]
    by_cases e1 : n = 1
    · have hsa : saP n l s o = (((1 : Nat) : Int), ((1 : Nat) : Int)) := by rw [saP, if_pos h, if_pos e1]; rfl
      rw [hsa]
      have hR := D.one e1
      have e2 : n.toNat = 1 := by omega
      exact vl_of D.pos (by omega) (Nat.one_dvd _) D.le (Nat.le_refl _) (by rw [e2, hR]; omega) D.big
    · by_cases e2 : gapN n l = 0
      · have hsa : saP n l s o = (((0 : Nat) : Int), ((1 : Nat) : Int)) := by rw [saP, if_pos h, if_neg e1, if_pos e2]; rfl
        rw [hsa]
        exact vl_of D.pos (by omega) (Nat.one_dvd _) D.le (by omega) (by omega) D.big
      · have hsa : saP n l s o = (frN (saX n l s o) (o.toNat ^ l.length), frD (saX n l s o) (o.toNat ^ l.length)) := by rw [saP, if_pos h, if_neg e1, if_neg e2]
        have hge := D.ge e1 e2
        generalize saX n l s o = X at *
        have hXD : X ≤ o.toNat ^ l.length := Nat.le_of_mul_le_mul_left (Nat.le_trans hge D.le) (by omega)
        rw [hsa]
        have hg : 0 < Nat.gcd X (o.toNat ^ l.length) := Nat.gcd_pos_of_pos_right X hpos
        obtain ⟨c, hc⟩ := Nat.gcd_dvd_left X (o.toNat ^ l.length)
        obtain ⟨d, hd'⟩ := Nat.gcd_dvd_right X (o.toNat ^ l.length)
        have ec : frN X (o.toNat ^ l.length) = (c : Int) := by
          rw [frN]; congr 1
          exact Nat.div_eq_of_eq_mul_right hg hc
        have ed : frD X (o.toNat ^ l.length) = (d : Int) := by
          rw [frD]; congr 1
          exact Nat.div_eq_of_eq_mul_right hg hd'
        rw [ec, ed]
        have hle := D.le
        have hps := D.pos
        have hbg := D.big
        generalize Nat.gcd X (o.toNat ^ l.length) = g at *
        rw [hd'] at hpos hXD hle hps hbg ⊢
        have hd0 : 0 < d := Nat.pos_of_mul_pos_left hpos
        refine vl_of hps hd0 ⟨n.toNat * g, by rw [Nat.mul_comm g d, ← Nat.mul_assoc, Nat.mul_comm n.toNat d, Nat.mul_assoc]⟩ hle ?_ ?_ hbg
        · rw [hc] at hXD
          exact Nat.le_of_mul_le_mul_left hXD hg
        · have : c * (n.toNat * (g * d)) = n.toNat * X * d := by
            rw [hc]; simp only [Nat.mul_comm, Nat.mul_left_comm, Nat.mul_assoc]
          rw [this]
          exact Nat.mul_le_mul_right _ hge
  · rw [D.deq]
    exact vl_1 D.pos D.le D.big
  · by_cases e1 : n = 1
    · have hsa : saP n l s o = (1, 1) := by rw [saP, if_pos h, if_pos e1]
      have hR := D.one e1
      have e2 : n.toNat = 1 := by omega
      refine ⟨?_, hsa⟩
      rw [D.deq, hR, e2, Nat.one_mul, (frac_one hpos).1, (frac_one hpos).2]
    · have e2 : gapN n l ≠ 0 := hgn.resolve_right e1
      have hge := D.ge e1 e2
      have hX : o.toNat ^ l.length ≤ saX n l s o := by
        have h1 := inB_mono s.toNat o.toNat l.length (a := 1) (((gapN n l - 1).tdiv 2).toNat)
        rw [Nat.add_comm 1] at h1
        refine Nat.le_trans (Nat.le_of_eq ?_) h1
        rw [inB, inB, hs]
        simp [Wn, partN]
      have hX2 : saX n l s o ≤ o.toNat ^ l.length := Nat.le_of_mul_le_mul_left (Nat.le_trans hge D.le) (by omega)
      have hXe : saX n l s o = o.toNat ^ l.length := by omega
      rw [hXe] at hge
      have hRe : R = n.toNat * o.toNat ^ l.length := by have := D.le; omega
      constructor
      · rw [D.deq, hRe, (frac_one D.pos).1, (frac_one D.pos).2]
      · rw [saP, if_pos h, if_neg e1, if_neg e2, hXe, (frac_one hpos).1, (frac_one hpos).2]
def dnN (l : List Int) : Int := amV l maL (0, 0)
def dnS (l : List Int) : List Int × Cu := sc5 l (dnN l) (pkC l 16 (0, 0))
def dnB (l : List Int) : Bool := decide ((dnS l).1.length > 8) && !(pkV l 6 (dnS l).2 == 0)
def dnC (l : List Int) : Cu := if (dnS l).1.length > 8 then pkC l 6 (dnS l).2 else (dnS l).2
def dnD (l : List Int) : Int × Int := (dbR l (dnC l)).1
def a_DrawCD (f_many : FuncId) (f_scheme5 : FuncId) (f_one : FuncId) (f_doubt7 : FuncId) : AFn := ⟨1, 
  .seq (.reg [⟨some 2, none, .d (.mv (.c (.int .i64 0)))⟩,
    ⟨some 3, none, .d (.mv (.c (.nilsl)))⟩,
    ⟨some 4, none, .w (.alloc [.int .i64 0, .int .i64 0])⟩])
  (.seq (.reg [⟨some 8, none, .d (.mv (.t 0))⟩,
    ⟨some 9, none, .d (.build [.nilsl, .int .i64 0, .int .u64 0] [(0, 1, (.t 8))])⟩,
    ⟨some 10, none, .w (.box 3 (.t 9))⟩,
    ⟨some 5, none, .d (.mv (.t 10))⟩])
  (.seq (.reg [⟨some 11, none, .d (.mv (.t 5))⟩,
    ⟨some 12, none, .w (.callL (.f f_many) [(.t 11)] [10] 0 false)⟩,
    ⟨some 6, none, .d (.mv (.t 12))⟩])
  (.seq (.reg [⟨some 13, none, .d (.mv (.t 5))⟩,
    ⟨some 14, none, .d (.mv (.t 6))⟩,
    ⟨some 15, none, .w (.callL (.f f_scheme5) [(.t 13), (.t 14)] [10] 1 false)⟩,
    ⟨some 7, none, .d (.mv (.t 15))⟩])
  (.seq (.seq (.reg [⟨some 16, none, .d (.mv (.t 7))⟩,
    ⟨some 17, none, .d (.len (.t 16))⟩,
    ⟨some 18, none, .d (.bin .arith .gtr (.t 17) (.c (.int .i64 8)))⟩,
    ⟨some 19, none, .d (.mv (.t 18))⟩,
    ⟨some 20, some (19, true), .d (.mv (.t 5))⟩,
    ⟨some 21, some (19, true), .w (.callL (.f f_one) [(.t 20), (.c (.int .i64 6))] [10] 0 false)⟩,
    ⟨some 22, some (19, true), .d (.not (.t 21))⟩,
    ⟨some 23, none, .d (.pick (.t 19) (.t 22) (.c (.bool false)))⟩])
  (.cond (.t 23) (.reg [⟨some 24, none, .d (.mv (.t 7))⟩,
     ⟨some 25, none, .d (.slc 1 (.t 24) none (some (.c (.int .i64 8))))⟩,
     ⟨some 7, none, .d (.mv (.t 25))⟩]) (.skip)))
  (.seq (.reg [⟨some 26, none, .d (.mv (.t 6))⟩,
    ⟨some 27, none, .d (.mv (.t 7))⟩,
    ⟨some 28, none, .d (.mv (.t 5))⟩,
    ⟨some 29, none, .w (.callL (.f f_doubt7) [(.t 28)] [10] 0 false)⟩,
    ⟨some 2, none, .d (.mv (.t 26))⟩,
    ⟨some 3, none, .d (.mv (.t 27))⟩,
    ⟨none, none, .w (.store 2 (.t 4) (.t 29))⟩])
  (.ret)))))), [.tmp 2, .tmp 3, .cell 4 2 true]⟩
def n_DrawCD : Nat → Option Ann := fun d => if d = 12 then some ⟨[10], 0, false⟩ else if d = 15 then some ⟨[10], 1, false⟩ else if d = 21 then some ⟨[10], 0, false⟩ else if d = 29 then some ⟨[10], 0, false⟩ else none
abbrev k_DrawCD : List Nat := [0, 2, 3, 4, 5, 6, 7, 23]
abbrev o_DrawCD : List Nat := [4, 10, 15]
def c_DrawCD : Con := pure' fun
  | [.p v] => match slU v with
    | some l => some (.tp [.p (.int .i64 (dnN l)), if dnB l = true then .sub 2000000 0 8 else .ar 2000000, .ag [.p (.int .i64 (dnD l).1), .p (.int .i64 (dnD l).2)]], [.arr 1 (ints (dnS l).1)])
    | none => none
  | _ => none
theorem s_DrawCD {P : Program} (hm : P.follows .mixedOrders = true) {Γ : Gam} (hΓ : GS P Γ) {n : FuncId} {f_many : FuncId} {f_scheme5 : FuncId} {f_one : FuncId} {f_doubt7 : FuncId} (is : Is P n (a_DrawCD f_many f_scheme5 f_one f_doubt7)) (h_many : Γ f_many = c_many) (h_scheme5 : Γ f_scheme5 = c_scheme5) (h_one : Γ f_one = c_one) (h_doubt7 : Γ f_doubt7 = c_doubt7)  : Says P n c_DrawCD := by
  refine Says.pure fun args r fs h => ?_
  split at h
  case h_2 => cases h
  rename_i v
  split at h
  case h_2 => cases h
  rename_i l hv
  simp only [Option.some.injEq, Prod.mk.injEq] at h
  obtain ⟨rfl, rfl⟩ := h
  have hl := (slU_out hv).2
  have hvc := slU_cells hv
  have ha0 : CuA (0, 0) 0 := ⟨by decide, by decide⟩
  have ha1 := ha0.pk l 16
  have ha2 : CuA (dnS l).2 51 := (sc5_at hl ha1).mono (by decide)
  have ha3 := ha2.pk l 6
  have hlen : (dnS l).1.length ≤ 15 := sc5_len hl ha1
  have q1 := ha1.1
  have q1' : (pkC l 16 (0, 0)).1 ≤ 700 := by have := ha1.2; omega
  have q2 := ha2.1
  have q2' : (dnS l).2.1 ≤ 1000 := by have := ha2.2; omega
  have q2'' : (dnS l).2.1 ≤ 900 := by have := ha2.2; omega
  have q3 := ha3.1
  have q3' : (pkC l 6 (dnS l).2).1 ≤ 900 := by have := ha3.2; omega
  have e0 : amV l maL (0, 0) = dnN l := rfl
  have e1 : sc5 l (dnN l) (pkC l 16 (0, 0)) = dnS l := rfl
  by_cases h8 : (dnS l).1.length > 8
  · have h8' : ((dnS l).1.length : Int) > 8 := by omega
    have h9 : 8 ≤ (dnS l).1.length := by omega
    have hC : dnC l = pkC l 6 (dnS l).2 := by simp only [dnC, h8, if_true]
    have hD : dbR l (pkC l 6 (dnS l).2) = dbR l (dnC l) := by rw [hC]
    have e2 : (dbR l (dnC l)).1 = dnD l := rfl
    by_cases z : pkV l 6 (dnS l).2 = 0
    · have z' : (pkV l 6 (dnS l).2 == 0) = true := by simp [z]
      have hB : dnB l = false := by simp only [dnB, z', Bool.not_true, Bool.and_false]
      simp only [hB, Bool.false_eq_true, if_false]
      refine is.go hm hΓ k_DrawCD o_DrawCD (by simp [a_DrawCD]) ?_
      simp only [a_DrawCD, h_many, c_many, h_scheme5, c_scheme5, h_one, c_one, h_doubt7, c_doubt7, hv, hvc, h8', z', q1, q1', q2, q2', q3, q3', e0, e1, hD, e2, cuEta, ints_len, (by decide : (6 : Int) ≤ 200), (by decide : (0 : Int) ≤ 900), Int.le_refl, List.zipIdx_cons, List.zipIdx_nil, ↓SP, SQ, Gam.add, stepM, callC, argC, lendO, nmBy, nmC, likeL, likeB, plainOb, offs, exL, X, F, trP, trO, stepD, stepW, newA, SV.tr, SV.trL, fz, allP, Ob.tr, loadA, cellsA, SV.cells, binA, binI, eqOut, isSl, isPt, natOf, callee, snap, SV.refsL, SV.refs, thaw, fzAll, loA, hiA, elemOf, partsA, buildA, putCells, ↓reduceIte, reduceCtorEq, okCell, Nat.reduceAdd, Nat.reduceEqDiff, Nat.reduceSub, Nat.reduceMul, Nat.reduceLeDiff, Nat.reduceLT, Nat.reduceBEq, PV.scal, PV.scalL, SV.scal, SV.scalL, Ob.scal, PV.isCell, pure', resO]
      refine finA_gen [15] trivial (by simp [retA, rvA, mkE_cons, mk_nil, mkO_cons, mkO_nil, loadA, SV.tr, SV.trL, nmF, rn_nil, rn_cons1, rn_cons2, plainOb, SV.refsL, SV.refs, Ob.refs, X, F, List.range_succ, mkO, setO_mk]; rfl) ?_ ?_ ?_ ?_ ?_ ?_ ?_ <;> simp [retA, rvA, mkE_cons, mk_nil, mkO_cons, mkO_nil, loadA, SV.tr, SV.trL, nmF, rn_nil, rn_cons1, rn_cons2, plainOb, SV.refsL, SV.refs, Ob.refs, X, F, List.range_succ, mkO, setO_mk]
    · have z' : (pkV l 6 (dnS l).2 == 0) = false := by simp [z]
      have hB : dnB l = true := by simp only [dnB, h8, decide_true, z', Bool.not_false, Bool.and_self]
      simp only [hB, if_true]
      refine is.go hm hΓ k_DrawCD o_DrawCD (by simp [a_DrawCD]) ?_
      simp only [a_DrawCD, h_many, c_many, h_scheme5, c_scheme5, h_one, c_one, h_doubt7, c_doubt7, hv, hvc, h8', z', h9, q1, q1', q2, q2', q3, q3', e0, e1, hD, e2, cuEta, ints_len, (by decide : (6 : Int) ≤ 200), (by decide : (0 : Int) ≤ 900), Int.le_refl, Int.reduceToNat, Int.reduceLE, List.zipIdx_cons, List.zipIdx_nil, ↓SP, SQ, Gam.add, stepM, callC, argC, lendO, nmBy, nmC, likeL, likeB, plainOb, offs, exL, X, F, trP, trO, stepD, stepW, newA, SV.tr, SV.trL, fz, allP, Ob.tr, loadA, cellsA, SV.cells, binA, binI, eqOut, isSl, isPt, natOf, callee, snap, SV.refsL, SV.refs, thaw, fzAll, loA, hiA, elemOf, partsA, buildA, putCells, ↓reduceIte, reduceCtorEq, okCell, Nat.reduceAdd, Nat.reduceEqDiff, Nat.reduceSub, Nat.reduceMul, Nat.reduceLeDiff, Nat.reduceLT, Nat.reduceBEq, PV.scal, PV.scalL, SV.scal, SV.scalL, Ob.scal, PV.isCell, pure', resO]
      refine finA_gen [15] trivial (by simp [retA, rvA, mkE_cons, mk_nil, mkO_cons, mkO_nil, loadA, SV.tr, SV.trL, nmF, rn_nil, rn_cons1, rn_cons2, plainOb, SV.refsL, SV.refs, Ob.refs, X, F, List.range_succ, mkO, setO_mk]; rfl) ?_ ?_ ?_ ?_ ?_ ?_ ?_ <;> simp [retA, rvA, mkE_cons, mk_nil, mkO_cons, mkO_nil, loadA, SV.tr, SV.trL, nmF, rn_nil, rn_cons1, rn_cons2, plainOb, SV.refsL, SV.refs, Ob.refs, X, F, List.range_succ, mkO, setO_mk]
  · have h8' : ¬ ((dnS l).1.length : Int) > 8 := by omega
    have hC : dnC l = (dnS l).2 := by simp only [dnC, h8, if_false]
    have hD : dbR l (dnS l).2 = dbR l (dnC l) := by rw [hC]
    have e2 : (dbR l (dnC l)).1 = dnD l := rfl
    have hB : dnB l = false := by simp only [dnB, h8, decide_false, Bool.false_and]
    simp only [hB, Bool.false_eq_true, if_false]
    refine is.go hm hΓ k_DrawCD o_DrawCD (by simp [a_DrawCD]) ?_
    simp only [a_DrawCD, h_many, c_many, h_scheme5, c_scheme5, h_one, c_one, h_doubt7, c_doubt7, hv, hvc, h8', q1, q1', q2, q2', q2'', e0, e1, hD, e2, cuEta, ints_len, (by decide : (0 : Int) ≤ 900), Int.le_refl, List.zipIdx_cons, List.zipIdx_nil, ↓SP, SQ, Gam.add, stepM, callC, argC, lendO, nmBy, nmC, likeL, likeB, plainOb, offs, exL, X, F, trP, trO, stepD, stepW, newA, SV.tr, SV.trL, fz, allP, Ob.tr, loadA, cellsA, SV.cells, binA, binI, eqOut, isSl, isPt, natOf, callee, snap, SV.refsL, SV.refs, thaw, fzAll, loA, hiA, elemOf, partsA, buildA, putCells, ↓reduceIte, reduceCtorEq, okCell, Nat.reduceAdd, Nat.reduceEqDiff, Nat.reduceSub, Nat.reduceMul, Nat.reduceLeDiff, Nat.reduceLT, Nat.reduceBEq, PV.scal, PV.scalL, SV.scal, SV.scalL, Ob.scal, PV.isCell, pure', resO]
    refine finA_gen [15] trivial (by simp [retA, rvA, mkE_cons, mk_nil, mkO_cons, mkO_nil, loadA, SV.tr, SV.trL, nmF, rn_nil, rn_cons1, rn_cons2, plainOb, SV.refsL, SV.refs, Ob.refs, X, F, List.range_succ, mkO, setO_mk]; rfl) ?_ ?_ ?_ ?_ ?_ ?_ ?_ <;> simp [retA, rvA, mkE_cons, mk_nil, mkO_cons, mkO_nil, loadA, SV.tr, SV.trL, nmF, rn_nil, rn_cons1, rn_cons2, plainOb, SV.refsL, SV.refs, Ob.refs, X, F, List.range_succ, mkO, setO_mk]
def a_x_FnDecoded (f_vBigD : FuncId) (f_DrawCD : FuncId) (f_ChanceDecoded : FuncId) (f_s_ChanceDecoded : FuncId) (f_ChanceSafe : FuncId) (f_s_ChanceSafe : FuncId) (f_GapOf : FuncId) (f_vLessD : FuncId) : AFn := ⟨1, 
  .seq (.reg [⟨some 2, none, .d (.mv (.c (.bool false)))⟩])
  (.seq (.seq (.reg [⟨some 16, none, .d (.mv (.t 0))⟩,
    ⟨some 17, none, .d (.call (.f f_vBigD) [(.t 16)])⟩])
  (.cond (.t 17) (.seq (.reg [⟨some 2, none, .d (.mv (.c (.bool true)))⟩])
   (.ret)) (.skip)))
  (.seq (.reg [⟨some 19, none, .d (.mv (.t 0))⟩,
    ⟨some 20, none, .d (.call (.f f_DrawCD) [(.t 19)])⟩,
    ⟨some 18, none, .d (.mv (.t 20))⟩,
    ⟨some 21, none, .d (.extract (.t 18) 0)⟩,
    ⟨some 22, none, .d (.extract (.t 18) 1)⟩,
    ⟨some 23, none, .d (.extract (.t 18) 2)⟩,
    ⟨some 5, none, .w (.alloc [.int .i64 0, .int .i64 0])⟩,
    ⟨some 3, none, .d (.mv (.t 21))⟩,
    ⟨some 4, none, .d (.mv (.t 22))⟩,
    ⟨none, none, .w (.store 2 (.t 5) (.t 23))⟩])
  (.seq (.reg [⟨some 25, none, .d (.mv (.t 3))⟩,
    ⟨some 26, none, .d (.mv (.t 4))⟩,
    ⟨some 27, none, .d (.load true 2 (.t 5))⟩,
    ⟨some 28, none, .d (.call (.f f_ChanceDecoded) [(.t 25), (.t 26), (.t 27)])⟩,
    ⟨some 24, none, .d (.mv (.t 28))⟩,
    ⟨some 29, none, .d (.extract (.t 24) 0)⟩,
    ⟨some 30, none, .d (.extract (.t 24) 1)⟩,
    ⟨some 6, none, .w (.alloc [.int .i64 0, .int .i64 0])⟩,
    ⟨none, none, .w (.store 2 (.t 6) (.t 29))⟩,
    ⟨some 7, none, .d (.mv (.t 30))⟩])
  (.seq (.reg [⟨some 32, none, .d (.mv (.t 3))⟩,
    ⟨some 33, none, .d (.mv (.t 4))⟩,
    ⟨some 34, none, .d (.load true 2 (.t 5))⟩,
    ⟨some 35, none, .d (.call (.f f_s_ChanceDecoded) [(.t 32), (.t 33), (.t 34)])⟩,
    ⟨some 31, none, .d (.mv (.t 35))⟩,
    ⟨some 36, none, .d (.extract (.t 31) 0)⟩,
    ⟨some 37, none, .d (.extract (.t 31) 1)⟩,
    ⟨some 8, none, .w (.alloc [.int .i64 0, .int .i64 0])⟩,
    ⟨none, none, .w (.store 2 (.t 8) (.t 36))⟩,
    ⟨some 9, none, .d (.mv (.t 37))⟩])
  (.seq (.reg [⟨some 39, none, .d (.mv (.t 3))⟩,
    ⟨some 40, none, .d (.mv (.t 4))⟩,
    ⟨some 41, none, .d (.load true 2 (.t 5))⟩,
    ⟨some 42, none, .d (.call (.f f_ChanceSafe) [(.t 39), (.t 40), (.t 41)])⟩,
    ⟨some 38, none, .d (.mv (.t 42))⟩,
    ⟨some 43, none, .d (.extract (.t 38) 0)⟩,
    ⟨some 44, none, .d (.extract (.t 38) 1)⟩,
    ⟨some 10, none, .w (.alloc [.int .i64 0, .int .i64 0])⟩,
    ⟨none, none, .w (.store 2 (.t 10) (.t 43))⟩,
    ⟨some 11, none, .d (.mv (.t 44))⟩])
  (.seq (.reg [⟨some 46, none, .d (.mv (.t 3))⟩,
    ⟨some 47, none, .d (.mv (.t 4))⟩,
    ⟨some 48, none, .d (.load true 2 (.t 5))⟩,
    ⟨some 49, none, .d (.call (.f f_s_ChanceSafe) [(.t 46), (.t 47), (.t 48)])⟩,
    ⟨some 45, none, .d (.mv (.t 49))⟩,
    ⟨some 50, none, .d (.extract (.t 45) 0)⟩,
    ⟨some 51, none, .d (.extract (.t 45) 1)⟩,
    ⟨some 12, none, .w (.alloc [.int .i64 0, .int .i64 0])⟩,
    ⟨none, none, .w (.store 2 (.t 12) (.t 50))⟩,
    ⟨some 13, none, .d (.mv (.t 51))⟩])
  (.seq (.seq (.reg [⟨some 52, none, .d (.load true 2 (.t 6))⟩,
    ⟨some 53, none, .d (.load true 2 (.t 8))⟩,
    ⟨some 54, none, .d (.bin (.arr 2) .neq (.t 52) (.t 53))⟩,
    ⟨some 55, none, .d (.mv (.t 54))⟩,
    ⟨some 56, some (55, false), .d (.mv (.t 7))⟩,
    ⟨some 57, some (55, false), .d (.mv (.t 9))⟩,
    ⟨some 58, some (55, false), .d (.bin .bool .neq (.t 56) (.t 57))⟩,
    ⟨some 59, none, .d (.pick (.t 55) (.c (.bool true)) (.t 58))⟩,
    ⟨some 60, none, .d (.mv (.t 59))⟩,
    ⟨some 61, some (60, false), .d (.load true 2 (.t 10))⟩,
    ⟨some 62, some (60, false), .d (.load true 2 (.t 12))⟩,
    ⟨some 63, some (60, false), .d (.bin (.arr 2) .neq (.t 61) (.t 62))⟩,
    ⟨some 64, none, .d (.pick (.t 60) (.c (.bool true)) (.t 63))⟩,
    ⟨some 65, none, .d (.mv (.t 64))⟩,
    ⟨some 66, some (65, false), .d (.mv (.t 11))⟩,
    ⟨some 67, some (65, false), .d (.mv (.t 13))⟩,
    ⟨some 68, some (65, false), .d (.bin .bool .neq (.t 66) (.t 67))⟩,
    ⟨some 69, none, .d (.pick (.t 65) (.c (.bool true)) (.t 68))⟩,
    ⟨some 70, none, .d (.mv (.t 69))⟩,
    ⟨some 71, some (70, false), .d (.mv (.t 7))⟩,
    ⟨some 72, some (70, false), .d (.mv (.t 11))⟩,
    ⟨some 73, some (70, false), .d (.bin .bool .neq (.t 71) (.t 72))⟩,
    ⟨some 74, none, .d (.pick (.t 70) (.c (.bool true)) (.t 73))⟩])
  (.cond (.t 74) (.seq (.reg [⟨some 2, none, .d (.mv (.c (.bool false)))⟩])
   (.ret)) (.skip)))
  (.seq (.seq (.reg [⟨some 75, none, .d (.mv (.t 7))⟩,
    ⟨some 76, none, .d (.not (.t 75))⟩])
  (.cond (.t 76) (.seq (.reg [⟨some 2, none, .d (.mv (.c (.bool true)))⟩])
   (.ret)) (.skip)))
  (.seq (.reg [⟨some 78, none, .d (.mv (.t 3))⟩,
    ⟨some 79, none, .d (.mv (.t 4))⟩,
    ⟨some 80, none, .d (.call (.f f_GapOf) [(.t 78), (.t 79)])⟩,
    ⟨some 77, none, .d (.mv (.t 80))⟩,
    ⟨some 81, none, .d (.extract (.t 77) 0)⟩,
    ⟨some 82, none, .d (.extract (.t 77) 1)⟩,
    ⟨some 14, none, .d (.mv (.t 81))⟩,
    ⟨some 15, none, .d (.mv (.t 82))⟩])
  (.seq (.seq (.reg [⟨some 83, none, .d (.mv (.t 15))⟩,
    ⟨some 84, none, .d (.not (.t 83))⟩,
    ⟨some 85, none, .d (.mv (.t 84))⟩,
    ⟨some 86, some (85, false), .d (.load true 2 (.t 6))⟩,
    ⟨some 87, some (85, false), .d (.load true 2 (.t 10))⟩,
    ⟨some 88, some (85, false), .d (.call (.f f_vLessD) [(.t 86), (.t 87)])⟩,
    ⟨some 89, none, .d (.pick (.t 85) (.c (.bool true)) (.t 88))⟩,
    ⟨some 90, none, .d (.mv (.t 89))⟩,
    ⟨some 91, some (90, false), .d (.build [.int .i64 0, .int .i64 0] [(0, 1, (.c (.int .i64 1))), (1, 1, (.c (.int .i64 1)))])⟩,
    ⟨some 92, some (90, false), .d (.load true 2 (.t 6))⟩,
    ⟨some 93, some (90, false), .d (.call (.f f_vLessD) [(.t 91), (.t 92)])⟩,
    ⟨some 94, none, .d (.pick (.t 90) (.c (.bool true)) (.t 93))⟩])
  (.cond (.t 94) (.seq (.reg [⟨some 2, none, .d (.mv (.c (.bool false)))⟩])
   (.ret)) (.skip)))
  (.seq (.reg [⟨some 95, none, .d (.fa 0 (.t 5))⟩,
    ⟨some 96, none, .d (.load false 1 (.t 95))⟩,
    ⟨some 97, none, .d (.bin .arith .gtr (.t 96) (.c (.int .i64 0)))⟩,
    ⟨some 98, none, .d (.mv (.t 97))⟩,
    ⟨some 99, some (98, false), .d (.mv (.t 14))⟩,
    ⟨some 100, some (98, false), .d (.bin .arith .eql (.t 99) (.c (.int .i64 0)))⟩,
    ⟨some 101, some (98, false), .d (.mv (.t 100))⟩,
    ⟨some 102, some (101, true), .d (.mv (.t 3))⟩,
    ⟨some 103, some (101, true), .d (.bin .arith .gtr (.t 102) (.c (.int .i64 1)))⟩,
    ⟨some 104, some (98, false), .d (.pick (.t 101) (.t 103) (.c (.bool false)))⟩,
    ⟨some 105, none, .d (.pick (.t 98) (.c (.bool true)) (.t 104))⟩,
    ⟨some 106, none, .d (.mv (.t 105))⟩,
    ⟨some 107, some (106, false), .d (.load true 2 (.t 6))⟩,
    ⟨some 108, some (106, false), .d (.build [.int .i64 0, .int .i64 0] [(0, 1, (.c (.int .i64 1))), (1, 1, (.c (.int .i64 1)))])⟩,
    ⟨some 109, some (106, false), .d (.bin (.arr 2) .eql (.t 107) (.t 108))⟩,
    ⟨some 110, some (106, false), .d (.mv (.t 109))⟩,
    ⟨some 111, some (110, true), .d (.load true 2 (.t 10))⟩,
    ⟨some 112, some (110, true), .d (.build [.int .i64 0, .int .i64 0] [(0, 1, (.c (.int .i64 1))), (1, 1, (.c (.int .i64 1)))])⟩,
    ⟨some 113, some (110, true), .d (.bin (.arr 2) .eql (.t 111) (.t 112))⟩,
    ⟨some 114, some (106, false), .d (.pick (.t 110) (.t 113) (.c (.bool false)))⟩,
    ⟨some 115, none, .d (.pick (.t 106) (.c (.bool true)) (.t 114))⟩,
    ⟨some 2, none, .d (.mv (.t 115))⟩])
  (.ret)))))))))))), [.tmp 2]⟩
def n_x_FnDecoded : Nat → Option Ann := fun _ => none
abbrev k_x_FnDecoded : List Nat := [0, 2, 3, 4, 5, 6, 7, 8, 9, 10, 11, 12, 13, 14, 15, 17, 74, 76, 94]
abbrev o_x_FnDecoded : List Nat := [5, 6, 8, 10, 12]
def c_x_FnDecoded : Con := pure' fun
  | [.p v] => match slU v with
    | some l => if l.length ≤ 9223372036854775807 then some (.p (.bool true), []) else none
    | none => none
  | _ => none
set_option maxHeartbeats 2000000 in
set_option maxRecDepth 100000 in
theorem s_x_FnDecoded {P : Program} (hm : P.follows .mixedOrders = true) {Γ : Gam} (hΓ : GS P Γ) {n : FuncId} {f_vBigD : FuncId} {f_DrawCD : FuncId} {f_ChanceDecoded : FuncId} {f_s_ChanceDecoded : FuncId} {f_ChanceSafe : FuncId} {f_s_ChanceSafe : FuncId} {f_GapOf : FuncId} {f_vLessD : FuncId} (is : Is P n (a_x_FnDecoded f_vBigD f_DrawCD f_ChanceDecoded f_s_ChanceDecoded f_ChanceSafe f_s_ChanceSafe f_GapOf f_vLessD)) (h_vBigD : Γ f_vBigD = c_vBigD) (h_DrawCD : Γ f_DrawCD = c_DrawCD) (h_ChanceDecoded : Γ f_ChanceDecoded = c_ChanceDecoded) (h_s_ChanceDecoded : Γ f_s_ChanceDecoded = c_ChanceDecoded) (h_ChanceSafe : Γ f_ChanceSafe = c_ChanceSafe) (h_s_ChanceSafe : Γ f_s_ChanceSafe = c_ChanceSafe) (h_GapOf : Γ f_GapOf = c_GapOf) (h_vLessD : Γ f_vLessD = c_vLessD)  : Says P n c_x_FnDecoded := by
  refine Says.pure fun args r fs h => ?_
  split at h
  case h_2 => cases h
  rename_i v
  split at h
  case h_2 => cases h
  rename_i l hv
  split at h
  case isFalse => cases h
  rename_i hc
  simp only [Option.some.injEq, Prod.mk.injEq] at h
  obtain ⟨rfl, rfl⟩ := h
  by_cases hk : l.length > 65536
  · refine is.go hm hΓ k_x_FnDecoded o_x_FnDecoded (by simp [a_x_FnDecoded]) ?_
    simp only [a_x_FnDecoded, h_vBigD, c_vBigD, h_DrawCD, c_DrawCD, h_ChanceDecoded, c_ChanceDecoded, h_s_ChanceDecoded, c_ChanceDecoded, h_ChanceSafe, c_ChanceSafe, h_s_ChanceSafe, c_ChanceSafe, h_GapOf, c_GapOf, h_vLessD, c_vLessD, hv, hk, List.zipIdx_cons, List.zipIdx_nil, ↓SP, SQ, Gam.add, stepM, callC, argC, lendO, nmBy, nmC, likeL, likeB, plainOb, offs, exL, X, F, trP, trO, stepD, stepW, newA, SV.tr, SV.trL, fz, allP, Ob.tr, loadA, cellsA, SV.cells, binA, binI, eqOut, isSl, isPt, natOf, callee, snap, SV.refsL, SV.refs, thaw, fzAll, loA, hiA, elemOf, partsA, buildA, putCells, ↓reduceIte, reduceCtorEq, okCell, Nat.reduceAdd, Nat.reduceEqDiff, Nat.reduceSub, Nat.reduceMul, Nat.reduceLeDiff, Nat.reduceLT, Nat.reduceBEq, PV.scal, PV.scalL, SV.scal, SV.scalL, Ob.scal, PV.isCell, pure', resO]
    exact finA_val (by simp [retA, rvA, mkE_cons, mk_nil, mkO_cons, mkO_nil, loadA, SV.tr, SV.trL, nmF, rn_nil, rn_cons1, rn_cons2, plainOb, SV.refsL, SV.refs, Ob.refs, X, F, List.range_succ, mkO, setO_mk]) (by simp [SV.tr, SV.trL])
  have hlen : (dnS l).1.length ≤ 15 := sc5_len (slU_out hv).2 (b := 1) (c := pkC l 16 (0, 0)) ((show CuA (0, 0) 0 from ⟨by decide, by decide⟩).pk l 16)
  generalize hn : dnN l = n
  generalize hs : (dnD l).1 = s
  generalize ho : (dnD l).2 = o
  cases hb : dnB l with
  | true =>
    have h9 : 8 ≤ (dnS l).1.length := by
      simp only [dnB, Bool.and_eq_true, decide_eq_true_eq] at hb; omega
    obtain ⟨L, hLe⟩ : ∃ L, (dnS l).1.take 8 = L := ⟨_, rfl⟩
    have hLl : L.length ≤ 1100000 := by rw [← hLe]; rw [List.length_take]; omega
    cases hok : okS n L s o with
    | false =>
      have hr1 : deP n L s o = (0, 0) := by simp only [deP, hok, Bool.false_eq_true, if_false]
      have hr2 : saP n L s o = (0, 0) := by simp only [saP, hok, Bool.false_eq_true, if_false]
      refine is.go hm hΓ k_x_FnDecoded o_x_FnDecoded (by simp [a_x_FnDecoded]) ?_
      simp only [a_x_FnDecoded, h_vBigD, c_vBigD, h_DrawCD, c_DrawCD, h_ChanceDecoded, c_ChanceDecoded, h_s_ChanceDecoded, c_ChanceDecoded, h_ChanceSafe, c_ChanceSafe, h_s_ChanceSafe, c_ChanceSafe, h_GapOf, c_GapOf, h_vLessD, c_vLessD, hv, hk, hb, hLe, hn, hs, ho, ints_take, ints_len, isI_ints, ofI_ints, key_ag, key_eq, bne_self_eq_false, beq_self_eq_true, Bool.and_self, Bool.not_true, Bool.not_false, Bool.false_eq_true, Int.le_refl, Int.reduceToNat, h9, hLl, hok, hr1, hr2, List.zipIdx_cons, List.zipIdx_nil, ↓SP, SQ, Gam.add, stepM, callC, argC, lendO, nmBy, nmC, likeL, likeB, plainOb, offs, exL, X, F, trP, trO, stepD, stepW, newA, SV.tr, SV.trL, fz, allP, Ob.tr, loadA, cellsA, SV.cells, binA, binI, eqOut, isSl, isPt, natOf, callee, snap, SV.refsL, SV.refs, thaw, fzAll, loA, hiA, elemOf, partsA, buildA, putCells, ↓reduceIte, reduceCtorEq, okCell, Nat.reduceAdd, Nat.reduceEqDiff, Nat.reduceSub, Nat.reduceMul, Nat.reduceLeDiff, Nat.reduceLT, Nat.reduceBEq, PV.scal, PV.scalL, SV.scal, SV.scalL, Ob.scal, PV.isCell, pure', resO]
      exact finA_val (by simp [retA, rvA, mkE_cons, mk_nil, mkO_cons, mkO_nil, loadA, SV.tr, SV.trL, nmF, rn_nil, rn_cons1, rn_cons2, plainOb, SV.refsL, SV.refs, Ob.refs, X, F, List.range_succ, mkO, setO_mk]) (by simp [SV.tr, SV.trL])
    | true =>
      have hsm : isSm n L = true := by
        have := hok
        simp only [okS, Bool.and_eq_true] at this
        exact this.1.1
      obtain ⟨n1, n2, l1, hd⟩ := okS_out hok
      obtain ⟨d1, d2, d3, d4⟩ := isD_out hd
      have hgn : gO (wdL L n.toNat) n.toNat = gapN n L := rfl
      obtain ⟨⟨⟨v1, v2, v3, v4, v5, v6, v7, v8⟩, v9⟩, ⟨⟨w1, w2, w3, w4, w5, w6, w7, w8⟩, w9⟩, hz⟩ := dc_all hok
      have lt : (1 : Int) ≤ 4000000000000000000 := by decide
      have u1 : 1 * (1 / Nat.gcd 1 1) ≤ 4000000000000000000 := by decide
      have u2 : decide (1 * (1 / Nat.gcd 1 1) < 1 * (1 / Nat.gcd 1 1)) = false := by decide
      have ge0 : (0 : Int) ≤ 1 := by decide
      generalize hPe : deP n L s o = P at *
      generalize hSe : saP n L s o = S at *
      have e1 : Int.toNat 1 = 1 := rfl
      simp only [e1] at w7 w8 w9
      by_cases hs0 : s > 0
      · refine is.go hm hΓ k_x_FnDecoded o_x_FnDecoded (by simp [a_x_FnDecoded]) ?_
        simp only [a_x_FnDecoded, h_vBigD, c_vBigD, h_DrawCD, c_DrawCD, h_ChanceDecoded, c_ChanceDecoded, h_s_ChanceDecoded, c_ChanceDecoded, h_ChanceSafe, c_ChanceSafe, h_s_ChanceSafe, c_ChanceSafe, h_GapOf, c_GapOf, h_vLessD, c_vLessD, hv, hk, hb, hLe, hn, hs, ho, ints_take, ints_len, isI_ints, ofI_ints, key_ag, key_eq, bne_self_eq_false, beq_self_eq_true, Bool.and_self, Bool.not_true, Bool.not_false, Bool.false_eq_true, Int.le_refl, Int.reduceToNat, h9, hLl, hok, hPe, hSe, hsm, hgn, v1, v2, v3, v4, v5, v6, v7, v8, v9, w1, w2, w3, w4, w5, w6, w7, w8, w9, lt, ge0, u1, u2, hs0, List.zipIdx_cons, List.zipIdx_nil, ↓SP, SQ, Gam.add, stepM, callC, argC, lendO, nmBy, nmC, likeL, likeB, plainOb, offs, exL, X, F, trP, trO, stepD, stepW, newA, SV.tr, SV.trL, fz, allP, Ob.tr, loadA, cellsA, SV.cells, binA, binI, eqOut, isSl, isPt, natOf, callee, snap, SV.refsL, SV.refs, thaw, fzAll, loA, hiA, elemOf, partsA, buildA, putCells, ↓reduceIte, reduceCtorEq, okCell, Nat.reduceAdd, Nat.reduceEqDiff, Nat.reduceSub, Nat.reduceMul, Nat.reduceLeDiff, Nat.reduceLT, Nat.reduceBEq, PV.scal, PV.scalL, SV.scal, SV.scalL, Ob.scal, PV.isCell, pure', resO]
        exact finA_val (by simp [retA, rvA, mkE_cons, mk_nil, mkO_cons, mkO_nil, loadA, SV.tr, SV.trL, nmF, rn_nil, rn_cons1, rn_cons2, plainOb, SV.refsL, SV.refs, Ob.refs, X, F, List.range_succ, mkO, setO_mk]) (by simp [SV.tr, SV.trL])
      · have hse : s = 0 := by omega
        by_cases hg : gapN n L = 0
        · have hg' : (gapN n L == 0) = true := by simp [hg]
          by_cases hn1 : n > 1
          · refine is.go hm hΓ k_x_FnDecoded o_x_FnDecoded (by simp [a_x_FnDecoded]) ?_
            simp only [a_x_FnDecoded, h_vBigD, c_vBigD, h_DrawCD, c_DrawCD, h_ChanceDecoded, c_ChanceDecoded, h_s_ChanceDecoded, c_ChanceDecoded, h_ChanceSafe, c_ChanceSafe, h_s_ChanceSafe, c_ChanceSafe, h_GapOf, c_GapOf, h_vLessD, c_vLessD, hv, hk, hb, hLe, hn, hs, ho, ints_take, ints_len, isI_ints, ofI_ints, key_ag, key_eq, bne_self_eq_false, beq_self_eq_true, Bool.and_self, Bool.not_true, Bool.not_false, Bool.false_eq_true, Int.le_refl, Int.reduceToNat, h9, hLl, hok, hPe, hSe, hsm, hgn, v1, v2, v3, v4, v5, v6, v7, v8, v9, w1, w2, w3, w4, w5, w6, w7, w8, w9, lt, ge0, u1, u2, hs0, hg', hn1, List.zipIdx_cons, List.zipIdx_nil, ↓SP, SQ, Gam.add, stepM, callC, argC, lendO, nmBy, nmC, likeL, likeB, plainOb, offs, exL, X, F, trP, trO, stepD, stepW, newA, SV.tr, SV.trL, fz, allP, Ob.tr, loadA, cellsA, SV.cells, binA, binI, eqOut, isSl, isPt, natOf, callee, snap, SV.refsL, SV.refs, thaw, fzAll, loA, hiA, elemOf, partsA, buildA, putCells, ↓reduceIte, reduceCtorEq, okCell, Nat.reduceAdd, Nat.reduceEqDiff, Nat.reduceSub, Nat.reduceMul, Nat.reduceLeDiff, Nat.reduceLT, Nat.reduceBEq, PV.scal, PV.scalL, SV.scal, SV.scalL, Ob.scal, PV.isCell, pure', resO]
            exact finA_val (by simp [retA, rvA, mkE_cons, mk_nil, mkO_cons, mkO_nil, loadA, SV.tr, SV.trL, nmF, rn_nil, rn_cons1, rn_cons2, plainOb, SV.refsL, SV.refs, Ob.refs, X, F, List.range_succ, mkO, setO_mk]) (by simp [SV.tr, SV.trL])
          · obtain ⟨rfl, rfl⟩ := hz hse (.inr (by omega))
            refine is.go hm hΓ k_x_FnDecoded o_x_FnDecoded (by simp [a_x_FnDecoded]) ?_
            simp only [a_x_FnDecoded, h_vBigD, c_vBigD, h_DrawCD, c_DrawCD, h_ChanceDecoded, c_ChanceDecoded, h_s_ChanceDecoded, c_ChanceDecoded, h_ChanceSafe, c_ChanceSafe, h_s_ChanceSafe, c_ChanceSafe, h_GapOf, c_GapOf, h_vLessD, c_vLessD, hv, hk, hb, hLe, hn, hs, ho, ints_take, ints_len, isI_ints, ofI_ints, key_ag, key_eq, bne_self_eq_false, beq_self_eq_true, Bool.and_self, Bool.not_true, Bool.not_false, Bool.false_eq_true, Int.le_refl, Int.reduceToNat, h9, hLl, hok, hPe, hSe, hsm, hgn, v1, v2, v3, v4, v5, v6, v7, v8, v9, w1, w2, w3, w4, w5, w6, w7, w8, w9, lt, ge0, u1, u2, hs0, hg', hn1, List.zipIdx_cons, List.zipIdx_nil, ↓SP, SQ, Gam.add, stepM, callC, argC, lendO, nmBy, nmC, likeL, likeB, plainOb, offs, exL, X, F, trP, trO, stepD, stepW, newA, SV.tr, SV.trL, fz, allP, Ob.tr, loadA, cellsA, SV.cells, binA, binI, eqOut, isSl, isPt, natOf, callee, snap, SV.refsL, SV.refs, thaw, fzAll, loA, hiA, elemOf, partsA, buildA, putCells, ↓reduceIte, reduceCtorEq, okCell, Nat.reduceAdd, Nat.reduceEqDiff, Nat.reduceSub, Nat.reduceMul, Nat.reduceLeDiff, Nat.reduceLT, Nat.reduceBEq, PV.scal, PV.scalL, SV.scal, SV.scalL, Ob.scal, PV.isCell, pure', resO]
            exact finA_val (by simp [retA, rvA, mkE_cons, mk_nil, mkO_cons, mkO_nil, loadA, SV.tr, SV.trL, nmF, rn_nil, rn_cons1, rn_cons2, plainOb, SV.refsL, SV.refs, Ob.refs, X, F, List.range_succ, mkO, setO_mk]) (by simp [SV.tr, SV.trL])
        · have hg' : (gapN n L == 0) = false := beq_eq_false_iff_ne.2 hg
          obtain ⟨rfl, rfl⟩ := hz hse (.inl hg)
          refine is.go hm hΓ k_x_FnDecoded o_x_FnDecoded (by simp [a_x_FnDecoded]) ?_
          simp only [a_x_FnDecoded, h_vBigD, c_vBigD, h_DrawCD, c_DrawCD, h_ChanceDecoded, c_ChanceDecoded, h_s_ChanceDecoded, c_ChanceDecoded, h_ChanceSafe, c_ChanceSafe, h_s_ChanceSafe, c_ChanceSafe, h_GapOf, c_GapOf, h_vLessD, c_vLessD, hv, hk, hb, hLe, hn, hs, ho, ints_take, ints_len, isI_ints, ofI_ints, key_ag, key_eq, bne_self_eq_false, beq_self_eq_true, Bool.and_self, Bool.not_true, Bool.not_false, Bool.false_eq_true, Int.le_refl, Int.reduceToNat, h9, hLl, hok, hPe, hSe, hsm, hgn, v1, v2, v3, v4, v5, v6, v7, v8, v9, w1, w2, w3, w4, w5, w6, w7, w8, w9, lt, ge0, u1, u2, hs0, hg', List.zipIdx_cons, List.zipIdx_nil, ↓SP, SQ, Gam.add, stepM, callC, argC, lendO, nmBy, nmC, likeL, likeB, plainOb, offs, exL, X, F, trP, trO, stepD, stepW, newA, SV.tr, SV.trL, fz, allP, Ob.tr, loadA, cellsA, SV.cells, binA, binI, eqOut, isSl, isPt, natOf, callee, snap, SV.refsL, SV.refs, thaw, fzAll, loA, hiA, elemOf, partsA, buildA, putCells, ↓reduceIte, reduceCtorEq, okCell, Nat.reduceAdd, Nat.reduceEqDiff, Nat.reduceSub, Nat.reduceMul, Nat.reduceLeDiff, Nat.reduceLT, Nat.reduceBEq, PV.scal, PV.scalL, SV.scal, SV.scalL, Ob.scal, PV.isCell, pure', resO]
          exact finA_val (by simp [retA, rvA, mkE_cons, mk_nil, mkO_cons, mkO_nil, loadA, SV.tr, SV.trL, nmF, rn_nil, rn_cons1, rn_cons2, plainOb, SV.refsL, SV.refs, Ob.refs, X, F, List.range_succ, mkO, setO_mk]) (by simp [SV.tr, SV.trL])
  | false =>
    obtain ⟨L, hLe⟩ : ∃ L, (dnS l).1 = L := ⟨_, rfl⟩
    have hLl : L.length ≤ 1100000 := by rw [← hLe]; omega
    cases hok : okS n L s o with
    | false =>
      have hr1 : deP n L s o = (0, 0) := by simp only [deP, hok, Bool.false_eq_true, if_false]
      have hr2 : saP n L s o = (0, 0) := by simp only [saP, hok, Bool.false_eq_true, if_false]
      refine is.go hm hΓ k_x_FnDecoded o_x_FnDecoded (by simp [a_x_FnDecoded]) ?_
      simp only [a_x_FnDecoded, h_vBigD, c_vBigD, h_DrawCD, c_DrawCD, h_ChanceDecoded, c_ChanceDecoded, h_s_ChanceDecoded, c_ChanceDecoded, h_ChanceSafe, c_ChanceSafe, h_s_ChanceSafe, c_ChanceSafe, h_GapOf, c_GapOf, h_vLessD, c_vLessD, hv, hk, hb, hLe, hn, hs, ho, ints_take, ints_len, isI_ints, ofI_ints, key_ag, key_eq, bne_self_eq_false, beq_self_eq_true, Bool.and_self, Bool.not_true, Bool.not_false, Bool.false_eq_true, Int.le_refl, Int.reduceToNat, hLl, hok, hr1, hr2, List.zipIdx_cons, List.zipIdx_nil, ↓SP, SQ, Gam.add, stepM, callC, argC, lendO, nmBy, nmC, likeL, likeB, plainOb, offs, exL, X, F, trP, trO, stepD, stepW, newA, SV.tr, SV.trL, fz, allP, Ob.tr, loadA, cellsA, SV.cells, binA, binI, eqOut, isSl, isPt, natOf, callee, snap, SV.refsL, SV.refs, thaw, fzAll, loA, hiA, elemOf, partsA, buildA, putCells, ↓reduceIte, reduceCtorEq, okCell, Nat.reduceAdd, Nat.reduceEqDiff, Nat.reduceSub, Nat.reduceMul, Nat.reduceLeDiff, Nat.reduceLT, Nat.reduceBEq, PV.scal, PV.scalL, SV.scal, SV.scalL, Ob.scal, PV.isCell, pure', resO]
      exact finA_val (by simp [retA, rvA, mkE_cons, mk_nil, mkO_cons, mkO_nil, loadA, SV.tr, SV.trL, nmF, rn_nil, rn_cons1, rn_cons2, plainOb, SV.refsL, SV.refs, Ob.refs, X, F, List.range_succ, mkO, setO_mk]) (by simp [SV.tr, SV.trL])
    | true =>
      have hsm : isSm n L = true := by
        have := hok
        simp only [okS, Bool.and_eq_true] at this
        exact this.1.1
      obtain ⟨n1, n2, l1, hd⟩ := okS_out hok
      obtain ⟨d1, d2, d3, d4⟩ := isD_out hd
      have hgn : gO (wdL L n.toNat) n.toNat = gapN n L := rfl
      obtain ⟨⟨⟨v1, v2, v3, v4, v5, v6, v7, v8⟩, v9⟩, ⟨⟨w1, w2, w3, w4, w5, w6, w7, w8⟩, w9⟩, hz⟩ := dc_all hok
      have lt : (1 : Int) ≤ 4000000000000000000 := by decide
      have u1 : 1 * (1 / Nat.gcd 1 1) ≤ 4000000000000000000 := by decide
      have u2 : decide (1 * (1 / Nat.gcd 1 1) < 1 * (1 / Nat.gcd 1 1)) = false := by decide
      have ge0 : (0 : Int) ≤ 1 := by decide
      generalize hPe : deP n L s o = P at *
      generalize hSe : saP n L s o = S at *
      have e1 : Int.toNat 1 = 1 := rfl
      simp only [e1] at w7 w8 w9
      by_cases hs0 : s > 0
      · refine is.go hm hΓ k_x_FnDecoded o_x_FnDecoded (by simp [a_x_FnDecoded]) ?_
        simp only [a_x_FnDecoded, h_vBigD, c_vBigD, h_DrawCD, c_DrawCD, h_ChanceDecoded, c_ChanceDecoded, h_s_ChanceDecoded, c_ChanceDecoded, h_ChanceSafe, c_ChanceSafe, h_s_ChanceSafe, c_ChanceSafe, h_GapOf, c_GapOf, h_vLessD, c_vLessD, hv, hk, hb, hLe, hn, hs, ho, ints_take, ints_len, isI_ints, ofI_ints, key_ag, key_eq, bne_self_eq_false, beq_self_eq_true, Bool.and_self, Bool.not_true, Bool.not_false, Bool.false_eq_true, Int.le_refl, Int.reduceToNat, hLl, hok, hPe, hSe, hsm, hgn, v1, v2, v3, v4, v5, v6, v7, v8, v9, w1, w2, w3, w4, w5, w6, w7, w8, w9, lt, ge0, u1, u2, hs0, List.zipIdx_cons, List.zipIdx_nil, ↓SP, SQ, Gam.add, stepM, callC, argC, lendO, nmBy, nmC, likeL, likeB, plainOb, offs, exL, X, F, trP, trO, stepD, stepW, newA, SV.tr, SV.trL, fz, allP, Ob.tr, loadA, cellsA, SV.cells, binA, binI, eqOut, isSl, isPt, natOf, callee, snap, SV.refsL, SV.refs, thaw, fzAll, loA, hiA, elemOf, partsA, buildA, putCells, ↓reduceIte, reduceCtorEq, okCell, Nat.reduceAdd, Nat.reduceEqDiff, Nat.reduceSub, Nat.reduceMul, Nat.reduceLeDiff, Nat.reduceLT, Nat.reduceBEq, PV.scal, PV.scalL, SV.scal, SV.scalL, Ob.scal, PV.isCell, pure', resO]
        exact finA_val (by simp [retA, rvA, mkE_cons, mk_nil, mkO_cons, mkO_nil, loadA, SV.tr, SV.trL, nmF, rn_nil, rn_cons1, rn_cons2, plainOb, SV.refsL, SV.refs, Ob.refs, X, F, List.range_succ, mkO, setO_mk]) (by simp [SV.tr, SV.trL])
      · have hse : s = 0 := by omega
        by_cases hg : gapN n L = 0
        · have hg' : (gapN n L == 0) = true := by simp [hg]
          by_cases hn1 : n > 1
          · refine is.go hm hΓ k_x_FnDecoded o_x_FnDecoded (by simp [a_x_FnDecoded]) ?_
            simp only [a_x_FnDecoded, h_vBigD, c_vBigD, h_DrawCD, c_DrawCD, h_ChanceDecoded, c_ChanceDecoded, h_s_ChanceDecoded, c_ChanceDecoded, h_ChanceSafe, c_ChanceSafe, h_s_ChanceSafe, c_ChanceSafe, h_GapOf, c_GapOf, h_vLessD, c_vLessD, hv, hk, hb, hLe, hn, hs, ho, ints_take, ints_len, isI_ints, ofI_ints, key_ag, key_eq, bne_self_eq_false, beq_self_eq_true, Bool.and_self, Bool.not_true, Bool.not_false, Bool.false_eq_true, Int.le_refl, Int.reduceToNat, hLl, hok, hPe, hSe, hsm, hgn, v1, v2, v3, v4, v5, v6, v7, v8, v9, w1, w2, w3, w4, w5, w6, w7, w8, w9, lt, ge0, u1, u2, hs0, hg', hn1, List.zipIdx_cons, List.zipIdx_nil, ↓SP, SQ, Gam.add, stepM, callC, argC, lendO, nmBy, nmC, likeL, likeB, plainOb, offs, exL, X, F, trP, trO, stepD, stepW, newA, SV.tr, SV.trL, fz, allP, Ob.tr, loadA, cellsA, SV.cells, binA, binI, eqOut, isSl, isPt, natOf, callee, snap, SV.refsL, SV.refs, thaw, fzAll, loA, hiA, elemOf, partsA, buildA, putCells, ↓reduceIte, reduceCtorEq, okCell, Nat.reduceAdd, Nat.reduceEqDiff, Nat.reduceSub, Nat.reduceMul, Nat.reduceLeDiff, Nat.reduceLT, Nat.reduceBEq, PV.scal, PV.scalL, SV.scal, SV.scalL, Ob.scal, PV.isCell, pure', resO]
            exact finA_val (by simp [retA, rvA, mkE_cons, mk_nil, mkO_cons, mkO_nil, loadA, SV.tr, SV.trL, nmF, rn_nil, rn_cons1, rn_cons2, plainOb, SV.refsL, SV.refs, Ob.refs, X, F, List.range_succ, mkO, setO_mk]) (by simp [SV.tr, SV.trL])
          · obtain ⟨rfl, rfl⟩ := hz hse (.inr (by omega))
            refine is.go hm hΓ k_x_FnDecoded o_x_FnDecoded (by simp [a_x_FnDecoded]) ?_
            simp only [a_x_FnDecoded, h_vBigD, c_vBigD, h_DrawCD, c_DrawCD, h_ChanceDecoded, c_ChanceDecoded, h_s_ChanceDecoded, c_ChanceDecoded, h_ChanceSafe, c_ChanceSafe, h_s_ChanceSafe, c_ChanceSafe, h_GapOf, c_GapOf, h_vLessD, c_vLessD, hv, hk, hb, hLe, hn, hs, ho, ints_take, ints_len, isI_ints, ofI_ints, key_ag, key_eq, bne_self_eq_false, beq_self_eq_true, Bool.and_self, Bool.not_true, Bool.not_false, Bool.false_eq_true, Int.le_refl, Int.reduceToNat, hLl, hok, hPe, hSe, hsm, hgn, v1, v2, v3, v4, v5, v6, v7, v8, v9, w1, w2, w3, w4, w5, w6, w7, w8, w9, lt, ge0, u1, u2, hs0, hg', hn1, List.zipIdx_cons, List.zipIdx_nil, ↓SP, SQ, Gam.add, stepM, callC, argC, lendO, nmBy, nmC, likeL, likeB, plainOb, offs, exL, X, F, trP, trO, stepD, stepW, newA, SV.tr, SV.trL, fz, allP, Ob.tr, loadA, cellsA, SV.cells, binA, binI, eqOut, isSl, isPt, natOf, callee, snap, SV.refsL, SV.refs, thaw, fzAll, loA, hiA, elemOf, partsA, buildA, putCells, ↓reduceIte, reduceCtorEq, okCell, Nat.reduceAdd, Nat.reduceEqDiff, Nat.reduceSub, Nat.reduceMul, Nat.reduceLeDiff, Nat.reduceLT, Nat.reduceBEq, PV.scal, PV.scalL, SV.scal, SV.scalL, Ob.scal, PV.isCell, pure', resO]
            exact finA_val (by simp [retA, rvA, mkE_cons, mk_nil, mkO_cons, mkO_nil, loadA, SV.tr, SV.trL, nmF, rn_nil, rn_cons1, rn_cons2, plainOb, SV.refsL, SV.refs, Ob.refs, X, F, List.range_succ, mkO, setO_mk]) (by simp [SV.tr, SV.trL])
        · have hg' : (gapN n L == 0) = false := beq_eq_false_iff_ne.2 hg
          obtain ⟨rfl, rfl⟩ := hz hse (.inl hg)
          refine is.go hm hΓ k_x_FnDecoded o_x_FnDecoded (by simp [a_x_FnDecoded]) ?_
          simp only [a_x_FnDecoded, h_vBigD, c_vBigD, h_DrawCD, c_DrawCD, h_ChanceDecoded, c_ChanceDecoded, h_s_ChanceDecoded, c_ChanceDecoded, h_ChanceSafe, c_ChanceSafe, h_s_ChanceSafe, c_ChanceSafe, h_GapOf, c_GapOf, h_vLessD, c_vLessD, hv, hk, hb, hLe, hn, hs, ho, ints_take, ints_len, isI_ints, ofI_ints, key_ag, key_eq, bne_self_eq_false, beq_self_eq_true, Bool.and_self, Bool.not_true, Bool.not_false, Bool.false_eq_true, Int.le_refl, Int.reduceToNat, hLl, hok, hPe, hSe, hsm, hgn, v1, v2, v3, v4, v5, v6, v7, v8, v9, w1, w2, w3, w4, w5, w6, w7, w8, w9, lt, ge0, u1, u2, hs0, hg', List.zipIdx_cons, List.zipIdx_nil, ↓SP, SQ, Gam.add, stepM, callC, argC, lendO, nmBy, nmC, likeL, likeB, plainOb, offs, exL, X, F, trP, trO, stepD, stepW, newA, SV.tr, SV.trL, fz, allP, Ob.tr, loadA, cellsA, SV.cells, binA, binI, eqOut, isSl, isPt, natOf, callee, snap, SV.refsL, SV.refs, thaw, fzAll, loA, hiA, elemOf, partsA, buildA, putCells, ↓reduceIte, reduceCtorEq, okCell, Nat.reduceAdd, Nat.reduceEqDiff, Nat.reduceSub, Nat.reduceMul, Nat.reduceLeDiff, Nat.reduceLT, Nat.reduceBEq, PV.scal, PV.scalL, SV.scal, SV.scalL, Ob.scal, PV.isCell, pure', resO]
          exact finA_val (by simp [retA, rvA, mkE_cons, mk_nil, mkO_cons, mkO_nil, loadA, SV.tr, SV.trL, nmF, rn_nil, rn_cons1, rn_cons2, plainOb, SV.refsL, SV.refs, Ob.refs, X, F, List.range_succ, mkO, setO_mk]) (by simp [SV.tr, SV.trL])
end Go.Proofs.Ytmbljmolegalhaa.Pam
