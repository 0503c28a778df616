/- A part of the proof that stands in this folder: a small machine whose steps are shown to be the steps of the model, or walks of functions by it. No condition of its own. -/
import Derived.Test.YtmbljmolegalhaaGeLX
set_option linter.unusedVariables false
set_option linter.unusedSimpArgs false
namespace Go.Proofs.Ytmbljmolegalhaa.Pam
open Go
theorem lsI_in (ds : List Int) : ∀ i, ∃ j, j ≤ i ∧ (lsI ds (i + 1)).1 = ds.getD j 0
  | 0 => ⟨0, Nat.le_refl _, by simp [lsI]⟩
  | i + 1 => by
    obtain ⟨j, hj, e⟩ := lsI_in ds i
    rw [lsI]
    split
    · exact ⟨i + 1, Nat.le_refl _, rfl⟩
    · split
      · exact ⟨j, by omega, e⟩
      · exact ⟨j, by omega, e⟩
theorem apL_get (l : List Int) (v : Int) {n j : Nat} (h : j < n) : (apL l v n).getD j 0 = (pcN 14 (wdN l j l.length ^^^ v.toNat) : Int) := by
  rw [getD_lt (by simp [apL, h])]; simp [apL]
/-- How far the nearest word is. -/
def neN (l : List Int) (n : Nat) (v : Nat) : Int := (lsI (apL l v n) n).1
theorem neN_le (l : List Int) {n v : Nat} (hn : 1 ≤ n) (hv : v < 2 ^ l.length) : 0 ≤ neN l n v ∧ neN l n v ≤ l.length := by
  obtain ⟨k, rfl⟩ : ∃ k, n = k + 1 := ⟨n - 1, by omega⟩
  obtain ⟨j, hj, e⟩ := lsI_in (apL l v (k + 1)) k
  have := pcN_le2 14 (wdN l j l.length ^^^ v) l.length (Nat.xor_lt_two_pow (wdN_lt _ _ _) hv)
  unfold neN
  rw [e, apL_get l v (by omega), Int.toNat_natCast]
  omega
theorem dsW_apL (l : List Int) (v : Int) (n : Nat) : dsW (wdL l n) v = apL l v n := by
  unfold dsW apL
  rw [wdL_len]
  apply List.map_congr_left
  intro j hj
  rw [wdL_get l (List.mem_range.1 hj), Int.toNat_natCast]
/-- The shares of the words that are read right, of the first k. -/
def dcN (s o : Int) (l : List Int) (n : Nat) : Nat → Nat
  | 0 => 0
  | v + 1 => dcN s o l n v + partN s.toNat o.toNat l.length (neN l n v).toNat
theorem dcN_step {s o : Int} {l : List Int} {n v : Nat} (hd : isD s o = true) (hl : l.length ≤ 12) (hn : 1 ≤ n) (hv : v < 2 ^ l.length) : partN s.toNat o.toNat l.length (neN l n v).toNat ≤ 1000000000000 := by
  obtain ⟨d1, d2, d3, d4⟩ := isD_out hd
  have h := neN_le l hn hv
  exact partN_le (by omega) (by omega) (by omega) hl
theorem dcN_le {s o : Int} {l : List Int} {n : Nat} (hd : isD s o = true) (hl : l.length ≤ 12) (hn : 1 ≤ n) : ∀ v, v ≤ 2 ^ l.length → dcN s o l n v ≤ 1000000000000 * v
  | 0, _ => by simp [dcN]
  | v + 1, h => by
    have a := dcN_le hd hl hn v (by omega)
    have b := dcN_step (l := l) (n := n) (v := v) hd hl hn (by omega)
    simp only [dcN]; omega
def deP (n : Int) (l : List Int) (s o : Int) : Int × Int := if okS n l s o = true then (frN (dcN s o l n.toNat (2 ^ l.length)) (n * ((o.toNat ^ l.length : Nat) : Int)).toNat, frD (dcN s o l n.toNat (2 ^ l.length)) (n * ((o.toNat ^ l.length : Nat) : Int)).toNat) else (0, 0)
def a_ChanceDecoded (f_isDrawnScheme : FuncId) (f_near : FuncId) (f_ofThese : FuncId) (f_power : FuncId) (f_fraction : FuncId) : AFn := ⟨3, 
  .seq (.reg [⟨some 5, none, .w (.box 2 (.t 2))⟩,
    ⟨some 6, none, .w (.alloc [.int .i64 0, .int .i64 0])⟩,
    ⟨some 7, none, .d (.mv (.c (.bool false)))⟩])
  (.seq (.seq (.reg [⟨some 12, none, .d (.mv (.t 0))⟩,
    ⟨some 13, none, .d (.mv (.t 1))⟩,
    ⟨some 14, none, .d (.load true 2 (.t 5))⟩,
    ⟨some 15, none, .d (.call (.f f_isDrawnScheme) [(.t 12), (.t 13), (.t 14)])⟩,
    ⟨some 16, none, .d (.not (.t 15))⟩])
  (.cond (.t 16) (.seq (.reg [⟨some 17, none, .d (.build [.int .i64 0, .int .i64 0] [])⟩,
     ⟨none, none, .w (.store 2 (.t 6) (.t 17))⟩,
     ⟨some 7, none, .d (.mv (.c (.bool false)))⟩])
   (.ret)) (.skip)))
  (.seq (.reg [⟨some 8, none, .d (.mv (.c (.int .i64 0)))⟩])
  (.seq (.seq (.reg [⟨some 18, none, .d (.mv (.t 1))⟩,
    ⟨some 19, none, .d (.len (.t 18))⟩,
    ⟨some 20, none, .d (.bin .arith .shl (.c (.int .i64 1)) (.t 19))⟩,
    ⟨some 21, none, .d (.mv (.c (.int .i64 0)))⟩])
  (.block 0 (.loop (.seq (.reg [⟨some 22, none, .d (.bin .arith .lss (.t 21) (.t 20))⟩])
    (.seq (.cond (.t 22) (.skip) (.exit 0))
    (.seq (.block 1 (.seq (.reg [⟨some 23, none, .d (.mv (.t 21))⟩,
       ⟨some 9, none, .d (.mv (.t 23))⟩])
     (.seq (.reg [⟨some 25, none, .d (.mv (.t 0))⟩,
       ⟨some 26, none, .d (.mv (.t 1))⟩,
       ⟨some 27, none, .d (.mv (.t 9))⟩,
       ⟨some 28, none, .d (.call (.f f_near) [(.t 25), (.t 26), (.t 27)])⟩,
       ⟨some 24, none, .d (.mv (.t 28))⟩,
       ⟨some 29, none, .d (.extract (.t 24) 0)⟩,
       ⟨some 30, none, .d (.extract (.t 24) 1)⟩,
       ⟨some 10, none, .d (.mv (.t 29))⟩,
       ⟨some 11, none, .d (.mv (.t 30))⟩])
     (.reg [⟨some 31, none, .d (.mv (.t 8))⟩,
       ⟨some 32, none, .d (.load true 2 (.t 5))⟩,
       ⟨some 33, none, .d (.mv (.t 1))⟩,
       ⟨some 34, none, .d (.len (.t 33))⟩,
       ⟨some 35, none, .d (.mv (.t 10))⟩,
       ⟨some 36, none, .d (.call (.f f_ofThese) [(.t 32), (.t 34), (.t 35)])⟩,
       ⟨some 37, none, .d (.bin .arith .add (.t 31) (.t 36))⟩,
       ⟨some 8, none, .d (.mv (.t 37))⟩]))))
    (.reg [⟨some 38, none, .d (.bin .arith .add (.t 21) (.c (.int .i64 1)))⟩,
      ⟨some 21, none, .d (.mv (.t 38))⟩])))))))
  (.seq (.reg [⟨some 39, none, .d (.mv (.t 8))⟩,
    ⟨some 40, none, .d (.mv (.t 0))⟩,
    ⟨some 41, none, .d (.fa 1 (.t 5))⟩,
    ⟨some 42, none, .d (.load false 1 (.t 41))⟩,
    ⟨some 43, none, .d (.mv (.t 1))⟩,
    ⟨some 44, none, .d (.len (.t 43))⟩,
    ⟨some 45, none, .d (.call (.f f_power) [(.t 42), (.t 44)])⟩,
    ⟨some 46, none, .d (.bin .arith .mul (.t 40) (.t 45))⟩,
    ⟨some 47, none, .d (.call (.f f_fraction) [(.t 39), (.t 46)])⟩,
    ⟨none, none, .w (.store 2 (.t 6) (.t 47))⟩,
    ⟨some 7, none, .d (.mv (.c (.bool true)))⟩])
  (.ret))))), [.cell 6 2 true, .tmp 7]⟩
def n_ChanceDecoded : Nat → Option Ann := fun _ => none
abbrev k_ChanceDecoded : List Nat := [0, 1, 2, 5, 6, 7, 8, 9, 10, 16, 20, 21, 22]
abbrev o_ChanceDecoded : List Nat := [5, 6]
def a_s_ChanceDecoded (f_l7Scheme : FuncId) (f_l5Words : FuncId) (f_l5Near : FuncId) (f_l7Parts : FuncId) (f_l7Power : FuncId) (f_l7Cut : FuncId) : AFn := ⟨3, 
  .seq (.reg [⟨some 5, none, .w (.box 2 (.t 2))⟩,
    ⟨some 6, none, .w (.alloc [.int .i64 0, .int .i64 0])⟩,
    ⟨some 7, none, .d (.mv (.c (.bool false)))⟩])
  (.seq (.seq (.reg [⟨some 14, none, .d (.mv (.t 0))⟩,
    ⟨some 15, none, .d (.mv (.t 1))⟩,
    ⟨some 16, none, .d (.load true 2 (.t 5))⟩,
    ⟨some 17, none, .d (.call (.f f_l7Scheme) [(.t 14), (.t 15), (.t 16)])⟩,
    ⟨some 18, none, .d (.not (.t 17))⟩])
  (.cond (.t 18) (.seq (.reg [⟨some 19, none, .d (.build [.int .i64 0, .int .i64 0] [])⟩,
     ⟨none, none, .w (.store 2 (.t 6) (.t 19))⟩,
     ⟨some 7, none, .d (.mv (.c (.bool false)))⟩])
   (.ret)) (.skip)))
  (.seq (.reg [⟨some 20, none, .d (.mv (.t 1))⟩,
    ⟨some 21, none, .d (.len (.t 20))⟩,
    ⟨some 22, none, .d (.mv (.t 0))⟩,
    ⟨some 23, none, .d (.mv (.t 1))⟩,
    ⟨some 24, none, .d (.call (.f f_l5Words) [(.t 22), (.t 23)])⟩,
    ⟨some 8, none, .d (.mv (.c (.int .i64 0)))⟩,
    ⟨some 9, none, .d (.mv (.t 21))⟩,
    ⟨some 10, none, .d (.mv (.t 24))⟩])
  (.seq (.seq (.reg [⟨some 11, none, .d (.mv (.c (.int .i64 0)))⟩])
  (.block 0 (.loop (.seq (.seq (.reg [⟨some 25, none, .d (.mv (.t 11))⟩,
      ⟨some 26, none, .d (.mv (.t 9))⟩,
      ⟨some 27, none, .d (.bin .arith .shl (.c (.int .i64 1)) (.t 26))⟩,
      ⟨some 28, none, .d (.bin .arith .lss (.t 25) (.t 27))⟩])
    (.cond (.t 28) (.skip) (.exit 0)))
    (.seq (.block 1 (.seq (.reg [⟨some 32, none, .d (.mv (.t 10))⟩,
       ⟨some 33, none, .d (.mv (.t 11))⟩,
       ⟨some 34, none, .d (.call (.f f_l5Near) [(.t 32), (.t 33)])⟩,
       ⟨some 31, none, .d (.mv (.t 34))⟩,
       ⟨some 35, none, .d (.extract (.t 31) 0)⟩,
       ⟨some 36, none, .d (.extract (.t 31) 1)⟩,
       ⟨some 12, none, .d (.mv (.t 35))⟩,
       ⟨some 13, none, .d (.mv (.t 36))⟩])
     (.seq (.reg [⟨some 37, none, .d (.mv (.t 12))⟩,
       ⟨some 38, none, .d (.len (.t 37))⟩,
       ⟨some 39, none, .d (.bin .arith .gtr (.t 38) (.c (.int .i64 0)))⟩])
     (.cond (.t 39) (.reg [⟨some 40, none, .d (.mv (.t 8))⟩,
        ⟨some 41, none, .d (.mv (.t 9))⟩,
        ⟨some 42, none, .d (.mv (.t 13))⟩,
        ⟨some 43, none, .d (.load true 2 (.t 5))⟩,
        ⟨some 44, none, .d (.call (.f f_l7Parts) [(.t 41), (.t 42), (.t 43)])⟩,
        ⟨some 45, none, .d (.bin .arith .add (.t 40) (.t 44))⟩,
        ⟨some 8, none, .d (.mv (.t 45))⟩]) (.skip)))))
    (.reg [⟨some 29, none, .d (.mv (.t 11))⟩,
      ⟨some 30, none, .d (.bin .arith .add (.t 29) (.c (.int .i64 1)))⟩,
      ⟨some 11, none, .d (.mv (.t 30))⟩]))))))
  (.seq (.reg [⟨some 46, none, .d (.mv (.t 8))⟩,
    ⟨some 47, none, .d (.mv (.t 0))⟩,
    ⟨some 48, none, .d (.fa 1 (.t 5))⟩,
    ⟨some 49, none, .d (.load false 1 (.t 48))⟩,
    ⟨some 50, none, .d (.mv (.t 9))⟩,
    ⟨some 51, none, .d (.call (.f f_l7Power) [(.t 49), (.t 50)])⟩,
    ⟨some 52, none, .d (.bin .arith .mul (.t 47) (.t 51))⟩,
    ⟨some 53, none, .d (.call (.f f_l7Cut) [(.t 46), (.t 52)])⟩,
    ⟨none, none, .w (.store 2 (.t 6) (.t 53))⟩,
    ⟨some 7, none, .d (.mv (.c (.bool true)))⟩])
  (.ret))))), [.cell 6 2 true, .tmp 7]⟩
def n_s_ChanceDecoded : Nat → Option Ann := fun _ => none
abbrev k_s_ChanceDecoded : List Nat := [0, 1, 2, 5, 6, 7, 8, 9, 10, 11, 12, 13, 18, 28, 39]
abbrev o_s_ChanceDecoded : List Nat := [5, 6]
def c_ChanceDecoded : Con := pure' fun
  | [.p (.int .i64 n), .p (.sl 1 l_), .p (.agg [.int .i64 s, .int .i64 o])] => if isI l_ = true ∧ ((ofI l_).length ≤ 1100000) then some (.tp [.ag [.p (.int .i64 (deP n (ofI l_) s o).1), .p (.int .i64 (deP n (ofI l_) s o).2)], .p (.bool (okS n (ofI l_) s o))], []) else none
  | _ => none
theorem s_ChanceDecoded {P : Program} (hm : P.follows .mixedOrders = true) {Γ : Gam} (hΓ : GS P Γ) {n : FuncId} {f_isDrawnScheme : FuncId} {f_near : FuncId} {f_ofThese : FuncId} {f_power : FuncId} {f_fraction : FuncId} (is : Is P n (a_ChanceDecoded f_isDrawnScheme f_near f_ofThese f_power f_fraction)) (h_isDrawnScheme : Γ f_isDrawnScheme = c_isDrawnScheme) (h_near : Γ f_near = c_near) (h_ofThese : Γ f_ofThese = c_ofThese) (h_power : Γ f_power = c_power) (h_fraction : Γ f_fraction = c_fraction)  : Says P n c_ChanceDecoded := by
  refine Says.pure fun args r fs h => ?_
  split at h
  case h_2 => cases h
  rename_i n l_ s o
  split at h
  case isFalse => cases h
  rename_i hc
  obtain ⟨hl_, hc⟩ := hc
  obtain ⟨l, rfl⟩ := isI_out hl_
  simp only [ofI_ints, ofBo_bools, ofAs_asks, Option.some.injEq, Prod.mk.injEq] at h hc
  obtain ⟨rfl, rfl⟩ := h
  have hokd : (isSm n l && decide ((l.length : Int) ≤ 12) && isD s o) = okS n l s o := rfl
  cases hok : okS n l s o with
  | false =>
    have hr : deP n l s o = (0, 0) := by simp only [deP, hok, Bool.false_eq_true, if_false]
    refine is.go hm hΓ k_ChanceDecoded o_ChanceDecoded (by simp [a_ChanceDecoded]) ?_
    simp only [a_ChanceDecoded, h_isDrawnScheme, c_isDrawnScheme, h_near, c_near, h_ofThese, c_ofThese, h_power, c_power, h_fraction, c_fraction, hc, hokd, hok, hr, List.zipIdx_cons, List.zipIdx_nil, ↓SP, SQ, Gam.add, stepM, callC, argC, lendO, nmBy, nmC, likeL, likeB, plainOb, offs, X, F, trP, trO, stepD, stepW, newA, SV.tr, SV.trL, fz, allP, Ob.tr, loadA, cellsA, SV.cells, binA, binI, eqOut, isSl, isPt, natOf, callee, snap, SV.refsL, SV.refs, thaw, fzAll, loA, hiA, elemOf, partsA, buildA, putCells, ↓reduceIte, reduceCtorEq, okCell, Nat.reduceAdd, Nat.reduceEqDiff, Nat.reduceSub, Nat.reduceMul, Nat.reduceLeDiff, Nat.reduceLT, Nat.reduceBEq, PV.scal, PV.scalL, SV.scal, SV.scalL, Ob.scal, PV.isCell, pure', resO]
    exact finA_val (by simp [retA, rvA, List.mapM_cons, List.mapM_nil, Option.pure_def, Option.bind_eq_bind, Option.bind_some, Option.map_some, mkE_cons, mk_nil, mkO_cons, mkO_nil, loadA, ↓reduceIte, List.take_succ_cons, List.take_zero, List.drop_zero, List.drop_succ_cons, List.length_cons, List.length_nil, Nat.reduceAdd, Nat.reduceEqDiff, Nat.reduceLeDiff, Nat.zero_add, Nat.le_refl, reduceCtorEq, SV.tr, SV.trL, nmF, rn_nil, rn_cons1, rn_cons2, List.map_cons, List.map_nil, List.all_cons, List.all_nil, plainOb, SV.refsL, SV.refs, Ob.refs, X, F, List.range_succ, List.range_zero, List.nil_append, List.cons_append, List.isEmpty_nil, decide_true, Nat.reduceLT, Bool.and_self, Bool.and_true, and_self, and_true, List.getElem?_cons_zero, List.getElem?_cons_succ, List.nodup_cons, List.nodup_nil, List.mem_cons, List.not_mem_nil, not_false_eq_true, or_false, List.append_nil, mkO, setO_mk, List.mem_singleton]) (by simp [SV.tr, SV.trL])
  | true =>
    obtain ⟨n1, n2, l1, hd⟩ := okS_out hok
    obtain ⟨d1, d2, d3, d4⟩ := isD_out hd
    have hr : deP n l s o = (frN (dcN s o l n.toNat (2 ^ l.length)) (n * ((o.toNat ^ l.length : Nat) : Int)).toNat, frD (dcN s o l n.toNat (2 ^ l.length)) (n * ((o.toNat ^ l.length : Nat) : Int)).toNat) := by unfold deP; rw [if_pos hok]
    have n0 : 0 ≤ n := by omega
    have nn : 1 ≤ n.toNat := by omega
    have l14 : l.length ≤ 14 := by omega
    have l12 : (l.length : Int) ≤ 12 := by omega
    have l0 : (0 : Int) ≤ l.length := by omega
    have l00 : ¬ (l.length : Int) < 0 := by omega
    have hsh := shlM l1
    have hp12 := pow12 l1
    have o0 : 0 ≤ o := by omega
    have hp := pow_le (b := o.toNat) (e := l.length) (by omega) l1
    have hpos : 0 < o.toNat ^ l.length := Nat.pow_pos (by omega)
    have hmb := mulB (a := n) (b := ((o.toNat ^ l.length : Nat) : Int)) (A := 12) (B := 1000000000000) n0 n2 (by omega) (by omega)
    have hmp : 0 < n * ((o.toNat ^ l.length : Nat) : Int) := Int.mul_pos (by omega) (by omega)
    have wm : IntKind.i64.wrap (n * ((o.toNat ^ l.length : Nat) : Int)) = n * ((o.toNat ^ l.length : Nat) : Int) := wrap64 (by omega) (by omega)
    have m2 : n * ((o.toNat ^ l.length : Nat) : Int) ≤ 4000000000000000000 := by omega
    have hdl := dcN_le (l := l) (n := n.toNat) hd l1 nn
    rw [hr]
    refine is.go hm hΓ k_ChanceDecoded o_ChanceDecoded (by simp [a_ChanceDecoded]) ?_
    simp only [a_ChanceDecoded, h_isDrawnScheme, c_isDrawnScheme, h_near, c_near, h_ofThese, c_ofThese, h_power, c_power, h_fraction, c_fraction, hc, hokd, hok, l00, hsh, List.zipIdx_cons, List.zipIdx_nil, ↓SP, SQ, Gam.add, stepM, callC, argC, lendO, nmBy, nmC, likeL, likeB, plainOb, offs, X, F, trP, trO, stepD, stepW, newA, SV.tr, SV.trL, fz, allP, Ob.tr, loadA, cellsA, SV.cells, binA, binI, eqOut, isSl, isPt, natOf, callee, snap, SV.refsL, SV.refs, thaw, fzAll, loA, hiA, elemOf, partsA, buildA, putCells, ↓reduceIte, reduceCtorEq, okCell, Nat.reduceAdd, Nat.reduceEqDiff, Nat.reduceSub, Nat.reduceMul, Nat.reduceLeDiff, Nat.reduceLT, Nat.reduceBEq, PV.scal, PV.scalL, SV.scal, SV.scalL, Ob.scal, PV.isCell, pure', resO]
    refine loop_at (fun s' : Nat × SV × SV × SV => mkEnv [(0, si n), (1, .p (.sl 1 (ints l))), (2, .p (.agg [.int .i64 s, .int .i64 o])), (5, .bx 5 0), (6, .bx 6 0), (7, sb false), (8, si (dcN s o l n.toNat s'.1)), (9, s'.2.1), (10, s'.2.2.1), (16, sb false), (20, si ((2 ^ l.length : Nat) : Int)), (21, si s'.1), (22, s'.2.2.2)]) (fun s' => mkO [(5, some (.box [si s, si o])), (6, some (.box [si 0, si 0]))]) (fun s' => s'.1 ≤ 2 ^ l.length) (fun s' => 2 ^ l.length - s'.1) (0, .junk, .junk, .junk) (by simp) rfl rfl ?_
    rintro ⟨v, c1, c2, c3⟩ hi R hR hN
    simp only at hi
    by_cases h : v < 2 ^ l.length
    · have h1 : (v : Int) < ((2 ^ l.length : Nat) : Int) := Int.ofNat_lt.2 h
      have hw := wrap_one (i := v) (by omega)
      have v0 : (0 : Int) ≤ v := by omega
      have v1 : (v : Int) < 16384 := by omega
      have hne := neN_le l nn h
      have hnd : (lsI (apL l v n.toNat) n.toNat).1 = neN l n.toNat v := rfl
      have b1 := hdl (v + 1) (by omega)
      have hadd : IntKind.i64.wrap ((dcN s o l n.toNat v : Int) + (partN s.toNat o.toNat l.length (neN l n.toNat v).toNat : Int)) = (dcN s o l n.toNat (v + 1) : Int) := by
        rw [← Int.natCast_add]
        show IntKind.i64.wrap ((dcN s o l n.toNat (v + 1) : Nat) : Int) = _
        exact wrap_nat (by omega)
      simp only [h1, hw, l14, n0, n2, v0, v1, hnd, hne.1, hne.2, hd, l12, h_near, c_near, h_ofThese, c_ofThese, Int.toNat_natCast, hadd, ↓SP, SQ, Gam.add, stepM, callC, argC, lendO, nmBy, nmC, likeL, likeB, plainOb, offs, X, F, trP, trO, stepD, stepW, newA, SV.tr, SV.trL, fz, allP, Ob.tr, loadA, cellsA, SV.cells, binA, binI, eqOut, isSl, isPt, natOf, callee, snap, SV.refsL, SV.refs, thaw, fzAll, loA, hiA, elemOf, partsA, buildA, putCells, ↓reduceIte, reduceCtorEq, okCell, Nat.reduceAdd, Nat.reduceEqDiff, Nat.reduceSub, Nat.reduceMul, Nat.reduceLeDiff, Nat.reduceLT, Nat.reduceBEq, PV.scal, PV.scalL, SV.scal, SV.scalL, Ob.scal, PV.isCell, pure', resO]
      exact hN (v + 1, _, _, _) _ _ (by simp only; omega) (by simp only; omega) rfl rfl
    · have he : v = 2 ^ l.length := by omega
      have h1 : ¬ (v : Int) < ((2 ^ l.length : Nat) : Int) := by omega
      have b1 := hdl (2 ^ l.length) (Nat.le_refl _)
      have x0 : (0 : Int) ≤ (dcN s o l n.toNat (2 ^ l.length) : Int) := by omega
      have x1 : (dcN s o l n.toNat (2 ^ l.length) : Int) ≤ 4000000000000000000 := by omega
      simp only [h1, ↓SP, SQ, Gam.add, stepM, callC, argC, lendO, nmBy, nmC, likeL, likeB, plainOb, offs, X, F, trP, trO, stepD, stepW, newA, SV.tr, SV.trL, fz, allP, Ob.tr, loadA, cellsA, SV.cells, binA, binI, eqOut, isSl, isPt, natOf, callee, snap, SV.refsL, SV.refs, thaw, fzAll, loA, hiA, elemOf, partsA, buildA, putCells, ↓reduceIte, reduceCtorEq, okCell, Nat.reduceAdd, Nat.reduceEqDiff, Nat.reduceSub, Nat.reduceMul, Nat.reduceLeDiff, Nat.reduceLT, Nat.reduceBEq, PV.scal, PV.scalL, SV.scal, SV.scalL, Ob.scal, PV.isCell, pure', resO]
      refine hR _ _ _ (by intro h; cases h) ?_
      subst he
      simp only [o0, d2, l0, l12, h_power, c_power, h_fraction, c_fraction, wm, x0, x1, hmp, m2, Int.toNat_natCast, ↓SP, SQ, Gam.add, stepM, callC, argC, lendO, nmBy, nmC, likeL, likeB, plainOb, offs, X, F, trP, trO, stepD, stepW, newA, SV.tr, SV.trL, fz, allP, Ob.tr, loadA, cellsA, SV.cells, binA, binI, eqOut, isSl, isPt, natOf, callee, snap, SV.refsL, SV.refs, thaw, fzAll, loA, hiA, elemOf, partsA, buildA, putCells, ↓reduceIte, reduceCtorEq, okCell, Nat.reduceAdd, Nat.reduceEqDiff, Nat.reduceSub, Nat.reduceMul, Nat.reduceLeDiff, Nat.reduceLT, Nat.reduceBEq, PV.scal, PV.scalL, SV.scal, SV.scalL, Ob.scal, PV.isCell, pure', resO]
      exact finA_val (by simp [retA, rvA, List.mapM_cons, List.mapM_nil, Option.pure_def, Option.bind_eq_bind, Option.bind_some, Option.map_some, mkE_cons, mk_nil, mkO_cons, mkO_nil, loadA, ↓reduceIte, List.take_succ_cons, List.take_zero, List.drop_zero, List.drop_succ_cons, List.length_cons, List.length_nil, Nat.reduceAdd, Nat.reduceEqDiff, Nat.reduceLeDiff, Nat.zero_add, Nat.le_refl, reduceCtorEq, SV.tr, SV.trL, nmF, rn_nil, rn_cons1, rn_cons2, List.map_cons, List.map_nil, List.all_cons, List.all_nil, plainOb, SV.refsL, SV.refs, Ob.refs, X, F, List.range_succ, List.range_zero, List.nil_append, List.cons_append, List.isEmpty_nil, decide_true, Nat.reduceLT, Bool.and_self, Bool.and_true, and_self, and_true, List.getElem?_cons_zero, List.getElem?_cons_succ, List.nodup_cons, List.nodup_nil, List.mem_cons, List.not_mem_nil, not_false_eq_true, or_false, List.append_nil, mkO, setO_mk, List.mem_singleton]) (by simp [SV.tr, SV.trL])
theorem s_s_ChanceDecoded {P : Program} (hm : P.follows .mixedOrders = true) {Γ : Gam} (hΓ : GS P Γ) {n : FuncId} {f_l7Scheme : FuncId} {f_l5Words : FuncId} {f_l5Near : FuncId} {f_l7Parts : FuncId} {f_l7Power : FuncId} {f_l7Cut : FuncId} (is : Is P n (a_s_ChanceDecoded f_l7Scheme f_l5Words f_l5Near f_l7Parts f_l7Power f_l7Cut)) (h_l7Scheme : Γ f_l7Scheme = c_isDrawnScheme) (h_l5Words : Γ f_l5Words = c_trueWords) (h_l5Near : Γ f_l5Near = c_l5Near) (h_l7Parts : Γ f_l7Parts = c_l7Parts) (h_l7Power : Γ f_l7Power = c_power) (h_l7Cut : Γ f_l7Cut = c_fraction)  : Says P n c_ChanceDecoded := by
  refine Says.pure fun args r fs h => ?_
  split at h
  case h_2 => cases h
  rename_i n l_ s o
  split at h
  case isFalse => cases h
  rename_i hc
  obtain ⟨hl_, hc⟩ := hc
  obtain ⟨l, rfl⟩ := isI_out hl_
  simp only [ofI_ints, ofBo_bools, ofAs_asks, Option.some.injEq, Prod.mk.injEq] at h hc
  obtain ⟨rfl, rfl⟩ := h
  have hokd : (isSm n l && decide ((l.length : Int) ≤ 12) && isD s o) = okS n l s o := rfl
  cases hok : okS n l s o with
  | false =>
    have hr : deP n l s o = (0, 0) := by simp only [deP, hok, Bool.false_eq_true, if_false]
    refine is.go hm hΓ k_s_ChanceDecoded o_s_ChanceDecoded (by simp [a_s_ChanceDecoded]) ?_
    simp only [a_s_ChanceDecoded, h_l7Scheme, c_isDrawnScheme, h_l5Words, c_trueWords, h_l5Near, c_l5Near, h_l7Parts, c_l7Parts, h_l7Power, c_power, h_l7Cut, c_fraction, hc, hokd, hok, hr, List.zipIdx_cons, List.zipIdx_nil, ↓SP, SQ, Gam.add, stepM, callC, argC, lendO, nmBy, nmC, likeL, likeB, plainOb, offs, X, F, trP, trO, stepD, stepW, newA, SV.tr, SV.trL, fz, allP, Ob.tr, loadA, cellsA, SV.cells, binA, binI, eqOut, isSl, isPt, natOf, callee, snap, SV.refsL, SV.refs, thaw, fzAll, loA, hiA, elemOf, partsA, buildA, putCells, ↓reduceIte, reduceCtorEq, okCell, Nat.reduceAdd, Nat.reduceEqDiff, Nat.reduceSub, Nat.reduceMul, Nat.reduceLeDiff, Nat.reduceLT, Nat.reduceBEq, PV.scal, PV.scalL, SV.scal, SV.scalL, Ob.scal, PV.isCell, pure', resO]
    exact finA_val (by simp [retA, rvA, List.mapM_cons, List.mapM_nil, Option.pure_def, Option.bind_eq_bind, Option.bind_some, Option.map_some, mkE_cons, mk_nil, mkO_cons, mkO_nil, loadA, ↓reduceIte, List.take_succ_cons, List.take_zero, List.drop_zero, List.drop_succ_cons, List.length_cons, List.length_nil, Nat.reduceAdd, Nat.reduceEqDiff, Nat.reduceLeDiff, Nat.zero_add, Nat.le_refl, reduceCtorEq, SV.tr, SV.trL, nmF, rn_nil, rn_cons1, rn_cons2, List.map_cons, List.map_nil, List.all_cons, List.all_nil, plainOb, SV.refsL, SV.refs, Ob.refs, X, F, List.range_succ, List.range_zero, List.nil_append, List.cons_append, List.isEmpty_nil, decide_true, Nat.reduceLT, Bool.and_self, Bool.and_true, and_self, and_true, List.getElem?_cons_zero, List.getElem?_cons_succ, List.nodup_cons, List.nodup_nil, List.mem_cons, List.not_mem_nil, not_false_eq_true, or_false, List.append_nil, mkO, setO_mk, List.mem_singleton]) (by simp [SV.tr, SV.trL])
  | true =>
    obtain ⟨n1, n2, l1, hd⟩ := okS_out hok
    obtain ⟨d1, d2, d3, d4⟩ := isD_out hd
    have hr : deP n l s o = (frN (dcN s o l n.toNat (2 ^ l.length)) (n * ((o.toNat ^ l.length : Nat) : Int)).toNat, frD (dcN s o l n.toNat (2 ^ l.length)) (n * ((o.toNat ^ l.length : Nat) : Int)).toNat) := by unfold deP; rw [if_pos hok]
    have n0 : 0 ≤ n := by omega
    have nn : 1 ≤ n.toNat := by omega
    have l14 : l.length ≤ 14 := by omega
    have l12 : (l.length : Int) ≤ 12 := by omega
    have l0 : (0 : Int) ≤ l.length := by omega
    have l00 : ¬ (l.length : Int) < 0 := by omega
    have hsh := shlM l1
    have hp12 := pow12 l1
    have o0 : 0 ≤ o := by omega
    have hp := pow_le (b := o.toNat) (e := l.length) (by omega) l1
    have hpos : 0 < o.toNat ^ l.length := Nat.pow_pos (by omega)
    have hmb := mulB (a := n) (b := ((o.toNat ^ l.length : Nat) : Int)) (A := 12) (B := 1000000000000) n0 n2 (by omega) (by omega)
    have hmp : 0 < n * ((o.toNat ^ l.length : Nat) : Int) := Int.mul_pos (by omega) (by omega)
    have wm : IntKind.i64.wrap (n * ((o.toNat ^ l.length : Nat) : Int)) = n * ((o.toNat ^ l.length : Nat) : Int) := wrap64 (by omega) (by omega)
    have m2 : n * ((o.toNat ^ l.length : Nat) : Int) ≤ 4000000000000000000 := by omega
    have hdl := dcN_le (l := l) (n := n.toNat) hd l1 nn
    rw [hr]
    have hwl : (wdL l n.toNat).length = n.toNat := wdL_len _ _
    have hwf := wdL_fit l n.toNat l14
    have hn4 : n.toNat ≤ 4096 := by omega
    have hnz : ¬ n.toNat = 0 := by omega
    refine is.go hm hΓ k_s_ChanceDecoded o_s_ChanceDecoded (by simp [a_s_ChanceDecoded]) ?_
    simp only [a_s_ChanceDecoded, h_l7Scheme, c_isDrawnScheme, h_l5Words, c_trueWords, h_l5Near, c_l5Near, h_l7Parts, c_l7Parts, h_l7Power, c_power, h_l7Cut, c_fraction, hc, hokd, hok, l14, n0, n2, List.zipIdx_cons, List.zipIdx_nil, ↓SP, SQ, Gam.add, stepM, callC, argC, lendO, nmBy, nmC, likeL, likeB, plainOb, offs, X, F, trP, trO, stepD, stepW, newA, SV.tr, SV.trL, fz, allP, Ob.tr, loadA, cellsA, SV.cells, binA, binI, eqOut, isSl, isPt, natOf, callee, snap, SV.refsL, SV.refs, thaw, fzAll, loA, hiA, elemOf, partsA, buildA, putCells, ↓reduceIte, reduceCtorEq, okCell, Nat.reduceAdd, Nat.reduceEqDiff, Nat.reduceSub, Nat.reduceMul, Nat.reduceLeDiff, Nat.reduceLT, Nat.reduceBEq, PV.scal, PV.scalL, SV.scal, SV.scalL, Ob.scal, PV.isCell, pure', resO]
    refine loop_at (fun s' : Nat × SV × SV × SV × SV => mkEnv [(0, si n), (1, .p (.sl 1 (ints l))), (2, .p (.agg [.int .i64 s, .int .i64 o])), (5, .bx 5 0), (6, .bx 6 0), (7, sb false), (8, si (dcN s o l n.toNat s'.1)), (9, si l.length), (10, .p (.sl 1 (ints (wdL l n.toNat)))), (11, si s'.1), (12, s'.2.1), (13, s'.2.2.1), (18, sb false), (28, s'.2.2.2.1), (39, s'.2.2.2.2)]) (fun s' => mkO [(5, some (.box [si s, si o])), (6, some (.box [si 0, si 0]))]) (fun s' => s'.1 ≤ 2 ^ l.length) (fun s' => 2 ^ l.length - s'.1) (0, .junk, .junk, .junk, .junk) (by simp) rfl rfl ?_
    rintro ⟨v, c1, c2, c3, c4⟩ hi R hR hN
    simp only at hi
    by_cases h : v < 2 ^ l.length
    · have h1 : (v : Int) < ((2 ^ l.length : Nat) : Int) := Int.ofNat_lt.2 h
      have hw := wrap_one (i := v) (by omega)
      have v0 : (0 : Int) ≤ v := by omega
      have v1 : (v : Int) < 16384 := by omega
      have hne := neN_le l nn h
      have hnd : (lsI (apL l v n.toNat) n.toNat).1 = neN l n.toNat v := rfl
      have hda := dsW_apL l v n.toNat
      have hgt : ((lsI (apL l v n.toNat) n.toNat).2.length : Int) > 0 := by
        obtain ⟨k, hk⟩ : ∃ k, n.toNat = k + 1 := ⟨n.toNat - 1, by omega⟩
        rw [hk]
        have := lsI_pos (apL l v (k + 1)) k
        omega
      have b1 := hdl (v + 1) (by omega)
      have hadd : IntKind.i64.wrap ((dcN s o l n.toNat v : Int) + (partN s.toNat o.toNat l.length (neN l n.toNat v).toNat : Int)) = (dcN s o l n.toNat (v + 1) : Int) := by
        rw [← Int.natCast_add]
        show IntKind.i64.wrap ((dcN s o l n.toNat (v + 1) : Nat) : Int) = _
        exact wrap_nat (by omega)
      simp only [l00, hsh, h1, hw, v0, v1, hwl, hwf, hn4, hnz, hda, hnd, hgt, hne.1, hne.2, hd, l12, h_l5Near, c_l5Near, h_l7Parts, c_l7Parts, ints_len, ofI_ints, isI_ints, Int.toNat_natCast, hadd, ↓SP, SQ, Gam.add, stepM, callC, argC, lendO, nmBy, nmC, likeL, likeB, plainOb, offs, X, F, trP, trO, stepD, stepW, newA, SV.tr, SV.trL, fz, allP, Ob.tr, loadA, cellsA, SV.cells, binA, binI, eqOut, isSl, isPt, natOf, callee, snap, SV.refsL, SV.refs, thaw, fzAll, loA, hiA, elemOf, partsA, buildA, putCells, ↓reduceIte, reduceCtorEq, okCell, Nat.reduceAdd, Nat.reduceEqDiff, Nat.reduceSub, Nat.reduceMul, Nat.reduceLeDiff, Nat.reduceLT, Nat.reduceBEq, PV.scal, PV.scalL, SV.scal, SV.scalL, Ob.scal, PV.isCell, pure', resO]
      exact hN (v + 1, _, _, _, _) _ _ (by simp only; omega) (by simp only; omega) rfl rfl
    · have he : v = 2 ^ l.length := by omega
      have h1 : ¬ (v : Int) < ((2 ^ l.length : Nat) : Int) := by omega
      have b1 := hdl (2 ^ l.length) (Nat.le_refl _)
      have x0 : (0 : Int) ≤ (dcN s o l n.toNat (2 ^ l.length) : Int) := by omega
      have x1 : (dcN s o l n.toNat (2 ^ l.length) : Int) ≤ 4000000000000000000 := by omega
      simp only [l00, hsh, h1, ↓SP, SQ, Gam.add, stepM, callC, argC, lendO, nmBy, nmC, likeL, likeB, plainOb, offs, X, F, trP, trO, stepD, stepW, newA, SV.tr, SV.trL, fz, allP, Ob.tr, loadA, cellsA, SV.cells, binA, binI, eqOut, isSl, isPt, natOf, callee, snap, SV.refsL, SV.refs, thaw, fzAll, loA, hiA, elemOf, partsA, buildA, putCells, ↓reduceIte, reduceCtorEq, okCell, Nat.reduceAdd, Nat.reduceEqDiff, Nat.reduceSub, Nat.reduceMul, Nat.reduceLeDiff, Nat.reduceLT, Nat.reduceBEq, PV.scal, PV.scalL, SV.scal, SV.scalL, Ob.scal, PV.isCell, pure', resO]
      refine hR _ _ _ (by intro h; cases h) ?_
      subst he
      simp only [o0, d2, l0, l12, h_l7Power, c_power, h_l7Cut, c_fraction, wm, x0, x1, hmp, m2, Int.toNat_natCast, ↓SP, SQ, Gam.add, stepM, callC, argC, lendO, nmBy, nmC, likeL, likeB, plainOb, offs, X, F, trP, trO, stepD, stepW, newA, SV.tr, SV.trL, fz, allP, Ob.tr, loadA, cellsA, SV.cells, binA, binI, eqOut, isSl, isPt, natOf, callee, snap, SV.refsL, SV.refs, thaw, fzAll, loA, hiA, elemOf, partsA, buildA, putCells, ↓reduceIte, reduceCtorEq, okCell, Nat.reduceAdd, Nat.reduceEqDiff, Nat.reduceSub, Nat.reduceMul, Nat.reduceLeDiff, Nat.reduceLT, Nat.reduceBEq, PV.scal, PV.scalL, SV.scal, SV.scalL, Ob.scal, PV.isCell, pure', resO]
      exact finA_val (by simp [retA, rvA, List.mapM_cons, List.mapM_nil, Option.pure_def, Option.bind_eq_bind, Option.bind_some, Option.map_some, mkE_cons, mk_nil, mkO_cons, mkO_nil, loadA, ↓reduceIte, List.take_succ_cons, List.take_zero, List.drop_zero, List.drop_succ_cons, List.length_cons, List.length_nil, Nat.reduceAdd, Nat.reduceEqDiff, Nat.reduceLeDiff, Nat.zero_add, Nat.le_refl, reduceCtorEq, SV.tr, SV.trL, nmF, rn_nil, rn_cons1, rn_cons2, List.map_cons, List.map_nil, List.all_cons, List.all_nil, plainOb, SV.refsL, SV.refs, Ob.refs, X, F, List.range_succ, List.range_zero, List.nil_append, List.cons_append, List.isEmpty_nil, decide_true, Nat.reduceLT, Bool.and_self, Bool.and_true, and_self, and_true, List.getElem?_cons_zero, List.getElem?_cons_succ, List.nodup_cons, List.nodup_nil, List.mem_cons, List.not_mem_nil, not_false_eq_true, or_false, List.append_nil, mkO, setO_mk, List.mem_singleton]) (by simp [SV.tr, SV.trL])
def a_x_ChanceDecoded (f_toIntS : FuncId) (f_toDoubt : FuncId) (f_s_ChanceDecoded : FuncId) (f_ChanceDecoded : FuncId) (f_eqIntA2 : FuncId) (f_eqIntS : FuncId) : AFn := ⟨3, 
  .seq (.reg [⟨some 5, none, .w (.box 2 (.t 2))⟩,
    ⟨some 6, none, .d (.mv (.c (.bool false)))⟩])
  (.seq (.seq (.reg [⟨some 12, none, .d (.mv (.t 1))⟩,
    ⟨some 13, none, .d (.len (.t 12))⟩,
    ⟨some 14, none, .d (.bin .arith .gtr (.t 13) (.c (.int .i64 1048576)))⟩])
  (.cond (.t 14) (.seq (.reg [⟨some 6, none, .d (.mv (.c (.bool true)))⟩])
   (.ret)) (.skip)))
  (.seq (.dreg [7] [([7], ⟨some 16, none, .d (.mv (.t 0))⟩),
    ([7], ⟨some 17, none, .d (.mv (.t 1))⟩),
    ([7], ⟨some 18, none, .d (.call (.f f_toIntS) [(.t 17)])⟩),
    ([7], ⟨some 19, none, .d (.load true 2 (.t 5))⟩),
    ([7], ⟨some 20, none, .d (.call (.f f_toDoubt) [(.t 19)])⟩),
    ([7], ⟨some 21, none, .d (.call (.f f_s_ChanceDecoded) [(.t 16), (.t 18), (.t 20)])⟩),
    ([7], ⟨some 15, none, .d (.mv (.t 21))⟩),
    ([7], ⟨some 22, none, .d (.extract (.t 15) 0)⟩),
    ([7], ⟨some 23, none, .d (.extract (.t 15) 1)⟩),
    ([], ⟨some 7, none, .w (.alloc [.int .i64 0, .int .i64 0])⟩),
    ([], ⟨none, none, .w (.store 2 (.t 7) (.t 22))⟩)] [⟨some 8, none, .d (.mv (.t 23))⟩])
  (.seq (.reg [⟨some 24, none, .d (.mv (.t 1))⟩,
    ⟨some 25, none, .d (.call (.f f_toIntS) [(.t 24)])⟩,
    ⟨some 9, none, .d (.mv (.t 25))⟩])
  (.seq (.reg [⟨some 27, none, .d (.mv (.t 0))⟩,
    ⟨some 28, none, .d (.mv (.t 9))⟩,
    ⟨some 29, none, .d (.load true 2 (.t 5))⟩,
    ⟨some 30, none, .d (.call (.f f_toDoubt) [(.t 29)])⟩,
    ⟨some 31, none, .d (.call (.f f_ChanceDecoded) [(.t 27), (.t 28), (.t 30)])⟩,
    ⟨some 26, none, .d (.mv (.t 31))⟩,
    ⟨some 32, none, .d (.extract (.t 26) 0)⟩,
    ⟨some 33, none, .d (.extract (.t 26) 1)⟩,
    ⟨some 10, none, .w (.alloc [.int .i64 0, .int .i64 0])⟩,
    ⟨none, none, .w (.store 2 (.t 10) (.t 32))⟩,
    ⟨some 11, none, .d (.mv (.t 33))⟩])
  (.seq (.seq (.reg [⟨some 34, none, .d (.load true 2 (.t 10))⟩,
    ⟨some 35, none, .d (.load true 2 (.t 7))⟩,
    ⟨some 36, none, .d (.call (.f f_eqIntA2) [(.t 34), (.t 35)])⟩,
    ⟨some 37, none, .d (.not (.t 36))⟩,
    ⟨some 38, none, .d (.mv (.t 37))⟩,
    ⟨some 39, some (38, false), .d (.mv (.t 11))⟩,
    ⟨some 40, some (38, false), .d (.mv (.t 8))⟩,
    ⟨some 41, some (38, false), .d (.bin .bool .neq (.t 39) (.t 40))⟩,
    ⟨some 42, none, .d (.pick (.t 38) (.c (.bool true)) (.t 41))⟩])
  (.cond (.t 42) (.seq (.reg [⟨some 6, none, .d (.mv (.c (.bool false)))⟩])
   (.ret)) (.skip)))
  (.seq (.seq (.reg [⟨some 43, none, .d (.mv (.t 9))⟩,
    ⟨some 44, none, .d (.mv (.t 1))⟩,
    ⟨some 45, none, .d (.call (.f f_toIntS) [(.t 44)])⟩,
    ⟨some 46, none, .d (.call (.f f_eqIntS) [(.t 43), (.t 45)])⟩,
    ⟨some 47, none, .d (.not (.t 46))⟩])
  (.cond (.t 47) (.seq (.reg [⟨some 6, none, .d (.mv (.c (.bool false)))⟩])
   (.ret)) (.skip)))
  (.seq (.reg [⟨some 6, none, .d (.mv (.c (.bool true)))⟩])
  (.ret)))))))), [.tmp 6]⟩
def n_x_ChanceDecoded : Nat → Option Ann := fun _ => none
abbrev k_x_ChanceDecoded : List Nat := [0, 1, 2, 5, 6, 7, 8, 9, 10, 11, 14, 42, 47]
abbrev o_x_ChanceDecoded : List Nat := [5, 7, 10]
def c_x_ChanceDecoded : Con := pure' fun
  | [.p (.int .i64 n), .p v, .p (.agg [.int .i64 s, .int .i64 o])] => match slI v with
    | some l => if l.length ≤ 9223372036854775807 then some (.p (.bool true), []) else none
    | none => none
  | _ => none
set_option maxRecDepth 100000 in
theorem s_x_ChanceDecoded {P : Program} (hm : P.follows .mixedOrders = true) {Γ : Gam} (hΓ : GS P Γ) {n : FuncId} {f_toIntS : FuncId} {f_toDoubt : FuncId} {f_s_ChanceDecoded : FuncId} {f_ChanceDecoded : FuncId} {f_eqIntA2 : FuncId} {f_eqIntS : FuncId} (is : Is P n (a_x_ChanceDecoded f_toIntS f_toDoubt f_s_ChanceDecoded f_ChanceDecoded f_eqIntA2 f_eqIntS)) (h_toIntS : Γ f_toIntS = c_toIntS) (h_toDoubt : Γ f_toDoubt = c_toDoubt) (h_s_ChanceDecoded : Γ f_s_ChanceDecoded = c_ChanceDecoded) (h_ChanceDecoded : Γ f_ChanceDecoded = c_ChanceDecoded) (h_eqIntA2 : Γ f_eqIntA2 = c_eqIntA2) (h_eqIntS : Γ f_eqIntS = c_eqIntS)  : Says P n c_x_ChanceDecoded := by
  refine Says.pure fun args r fs h => ?_
  split at h
  case h_2 => cases h
  rename_i n v s o
  split at h
  case h_2 => cases h
  rename_i l hl
  split at h
  case isFalse => cases h
  rename_i hc
  simp only [Option.some.injEq, Prod.mk.injEq] at h
  obtain ⟨rfl, rfl⟩ := h
  have hlu := slI_len hl
  by_cases hku : (l.length : Int) > 1048576
  · refine is.go hm hΓ k_x_ChanceDecoded o_x_ChanceDecoded (by simp [a_x_ChanceDecoded]) ?_
    simp only [a_x_ChanceDecoded, h_toIntS, c_toIntS, h_toDoubt, c_toDoubt, h_s_ChanceDecoded, c_ChanceDecoded, h_ChanceDecoded, c_ChanceDecoded, h_eqIntA2, c_eqIntA2, h_eqIntS, c_eqIntS, hlu, hc, hku, Int.reduceLE, Int.reduceNeg, Int.reduceLT, List.zipIdx_cons, List.zipIdx_nil, ↓SP, SQ, Gam.add, stepM, callC, argC, lendO, nmBy, nmC, likeL, likeB, plainOb, offs, X, F, trP, trO, stepD, stepW, newA, SV.tr, SV.trL, fz, allP, Ob.tr, loadA, cellsA, SV.cells, binA, binI, eqOut, isSl, isPt, natOf, callee, snap, SV.refsL, SV.refs, thaw, fzAll, loA, hiA, elemOf, partsA, buildA, putCells, ↓reduceIte, reduceCtorEq, okCell, Nat.reduceAdd, Nat.reduceEqDiff, Nat.reduceSub, Nat.reduceMul, Nat.reduceLeDiff, Nat.reduceLT, Nat.reduceBEq, PV.scal, PV.scalL, SV.scal, SV.scalL, Ob.scal, PV.isCell, pure', resO]
    exact finA_val (by simp [retA, rvA, List.mapM_cons, List.mapM_nil, Option.pure_def, Option.bind_eq_bind, Option.bind_some, Option.map_some, mkE_cons, mk_nil, mkO_cons, mkO_nil, loadA, ↓reduceIte, List.take_succ_cons, List.take_zero, List.drop_zero, List.drop_succ_cons, List.length_cons, List.length_nil, Nat.reduceAdd, Nat.reduceEqDiff, Nat.reduceLeDiff, Nat.zero_add, Nat.le_refl, reduceCtorEq, SV.tr, SV.trL, nmF, rn_nil, rn_cons1, rn_cons2, List.map_cons, List.map_nil, List.all_cons, List.all_nil, plainOb, SV.refsL, SV.refs, Ob.refs, X, F, List.range_succ, List.range_zero, List.nil_append, List.cons_append, List.isEmpty_nil, decide_true, Nat.reduceLT, Bool.and_self, Bool.and_true, and_self, and_true, List.getElem?_cons_zero, List.getElem?_cons_succ, List.nodup_cons, List.nodup_nil, List.mem_cons, List.not_mem_nil, not_false_eq_true, or_false, List.append_nil, mkO, setO_mk, List.mem_singleton]) (by simp [SV.tr, SV.trL])
  · have hlen : l.length ≤ 1048576 := by omega
    have hlen2 : l.length ≤ 1100000 := by omega
    generalize hg1 : (deP n l s o).1 = b1 at *
    generalize hg3 : (deP n l s o).2 = b3 at *
    generalize hg2 : okS n l s o = b2 at *
    refine is.go hm hΓ k_x_ChanceDecoded o_x_ChanceDecoded (by simp [a_x_ChanceDecoded]) ?_
    simp only [a_x_ChanceDecoded, h_toIntS, c_toIntS, h_toDoubt, c_toDoubt, h_s_ChanceDecoded, c_ChanceDecoded, h_ChanceDecoded, c_ChanceDecoded, h_eqIntA2, c_eqIntA2, h_eqIntS, c_eqIntS, hl, hlu, hc, hku, hlen, hlen2, hg1, hg2, hg3, slI_sl, beq_self_eq_true, decide_true, Bool.and_self, Bool.not_true, Int.reduceLE, Int.reduceNeg, Int.reduceLT, bne_self_eq_false, List.zipIdx_cons, List.zipIdx_nil, ↓SP, SQ, Gam.add, stepM, callC, argC, lendO, nmBy, nmC, likeL, likeB, plainOb, offs, X, F, trP, trO, stepD, stepW, newA, SV.tr, SV.trL, fz, allP, Ob.tr, loadA, cellsA, SV.cells, binA, binI, eqOut, isSl, isPt, natOf, callee, snap, SV.refsL, SV.refs, thaw, fzAll, loA, hiA, elemOf, partsA, buildA, putCells, ↓reduceIte, reduceCtorEq, okCell, Nat.reduceAdd, Nat.reduceEqDiff, Nat.reduceSub, Nat.reduceMul, Nat.reduceLeDiff, Nat.reduceLT, Nat.reduceBEq, PV.scal, PV.scalL, SV.scal, SV.scalL, Ob.scal, PV.isCell, pure', resO]
    exact finA_val (by simp [retA, rvA, List.mapM_cons, List.mapM_nil, Option.pure_def, Option.bind_eq_bind, Option.bind_some, Option.map_some, mkE_cons, mk_nil, mkO_cons, mkO_nil, loadA, ↓reduceIte, List.take_succ_cons, List.take_zero, List.drop_zero, List.drop_succ_cons, List.length_cons, List.length_nil, Nat.reduceAdd, Nat.reduceEqDiff, Nat.reduceLeDiff, Nat.zero_add, Nat.le_refl, reduceCtorEq, SV.tr, SV.trL, nmF, rn_nil, rn_cons1, rn_cons2, List.map_cons, List.map_nil, List.all_cons, List.all_nil, plainOb, SV.refsL, SV.refs, Ob.refs, X, F, List.range_succ, List.range_zero, List.nil_append, List.cons_append, List.isEmpty_nil, decide_true, Nat.reduceLT, Bool.and_self, Bool.and_true, and_self, and_true, List.getElem?_cons_zero, List.getElem?_cons_succ, List.nodup_cons, List.nodup_nil, List.mem_cons, List.not_mem_nil, not_false_eq_true, or_false, List.append_nil, mkO, setO_mk, List.mem_singleton]) (by simp [SV.tr, SV.trL])
end Go.Proofs.Ytmbljmolegalhaa.Pam
