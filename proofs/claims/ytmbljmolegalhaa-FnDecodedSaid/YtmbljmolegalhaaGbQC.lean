/- A part of the proof that stands in this folder: a small machine whose steps are shown to be the steps of the model, or walks of functions by it. No condition of its own. -/
import Derived.Test.YtmbljmolegalhaaGbLY
set_option linter.unusedVariables false
set_option linter.unusedSimpArgs false
namespace Go.Proofs.Ytmbljmolegalhaa.Pam
open Go
abbrev Cu := Int × Int
def u8s (l : List Int) : List PV := l.map fun n => .int .u8 n
def isU : PV → Bool
  | .int .u8 n => decide (0 ≤ n) && decide (n ≤ 255)
  | _ => false
def ofU : PV → Int
  | .int _ n => n
  | _ => 0
def slU : PV → Option (List Int)
  | .sl 1 xs => if xs.all isU = true then some (xs.map ofU) else none
  | .nilsl => some []
  | _ => none
theorem isU_out : ∀ {xs : List PV}, xs.all isU = true → xs = u8s (xs.map ofU) ∧ ∀ x ∈ xs.map ofU, 0 ≤ x ∧ x ≤ 255
  | [], _ => ⟨rfl, by simp⟩
  | x :: r, h => by
    simp only [List.all_cons, Bool.and_eq_true] at h
    obtain ⟨h1, h2⟩ := isU_out (xs := r) h.2
    have h3 := h.1
    unfold isU at h3
    split at h3
    · rename_i n
      simp only [Bool.and_eq_true, decide_eq_true_eq] at h3
      refine ⟨?_, fun y hy => ?_⟩
      · simp only [List.map_cons, u8s, ofU] at h1 ⊢; rw [← h1]
      · simp only [List.map_cons, List.mem_cons] at hy
        rcases hy with rfl | hy
        · exact h3
        · exact h2 y hy
    · cases h3
theorem slU_out {v : PV} {l : List Int} (h : slU v = some l) : (v = .sl 1 (u8s l) ∨ (v = .nilsl ∧ l = [])) ∧ ∀ x ∈ l, 0 ≤ x ∧ x ≤ 255 := by
  unfold slU at h
  split at h
  · split at h
    · rename_i hs
      obtain ⟨h1, h2⟩ := isU_out hs
      injection h with h
      subst h
      rw [← h1]
      exact ⟨.inl rfl, h2⟩
    · cases h
  · injection h with h; subst h; exact ⟨.inr ⟨rfl, rfl⟩, by simp⟩
  · cases h
theorem u8s_len (l : List Int) : (u8s l).length = l.length := by simp [u8s]
theorem u8s_get {l : List Int} {i : Nat} (h : i < l.length) : (u8s l)[i]? = some (.int .u8 (l.getD i 0)) := by simp [u8s, h]
def nxB (l : List Int) (a : Int) : Int := if a < l.length then l.getD a.toNat 0 else 0
def nxS (l : List Int) (c : Cu) : Int := IntKind.u64.wrap (IntKind.u64.wrap (IntKind.u64.wrap (c.2 * 6364136223846793005) + IntKind.u64.wrap (nxB l c.1)) + 462197)
def nxR (l : List Int) (c : Cu) : Int := if c.1 + 1 ≤ l.length then nxB l c.1 else IntKind.i64.wrap (andW .u64 ((nxS l c).fdiv (2 ^ min (Int.toNat 40) IntKind.u64.bits)) 255)
def nxC (l : List Int) (c : Cu) : Cu := (c.1 + 1, nxS l c)
theorem nxB_b {l : List Int} (hl : ∀ x ∈ l, 0 ≤ x ∧ x ≤ 255) {a : Int} (h0 : 0 ≤ a) : 0 ≤ nxB l a ∧ nxB l a ≤ 255 := by
  unfold nxB
  split
  · rename_i h
    have : a.toNat < l.length := by omega
    rw [show l.getD a.toNat 0 = l[a.toNat] by simp [this]]
    exact hl _ (List.getElem_mem _)
  · omega
theorem and255 (x : Int) : 0 ≤ andW .u64 x 255 ∧ andW .u64 x 255 ≤ 255 := by
  have h : (BitVec.ofInt 64 x &&& BitVec.ofInt 64 255).toNat ≤ 255 := by
    rw [BitVec.toNat_and]
    exact Nat.le_trans Nat.and_le_right (by decide)
  show 0 ≤ IntKind.u64.wrap ((BitVec.ofInt 64 x &&& BitVec.ofInt 64 255).toNat : Int) ∧ IntKind.u64.wrap ((BitVec.ofInt 64 x &&& BitVec.ofInt 64 255).toNat : Int) ≤ 255
  generalize (BitVec.ofInt 64 x &&& BitVec.ofInt 64 255).toNat = n at h ⊢
  rw [IntKind.wrap_u64]
  omega
theorem nxR_b {l : List Int} (hl : ∀ x ∈ l, 0 ≤ x ∧ x ≤ 255) {c : Cu} (h0 : 0 ≤ c.1) : 0 ≤ nxR l c ∧ nxR l c ≤ 255 := by
  unfold nxR
  split
  · exact nxB_b hl h0
  · have := and255 ((nxS l c).fdiv (2 ^ min (Int.toNat 40) IntKind.u64.bits))
    rw [wrap64 (by omega) (by omega)]
    exact this
def a_next : AFn := ⟨1, 
  .seq (.reg [⟨some 2, none, .d (.mv (.c (.int .i64 0)))⟩])
  (.seq (.reg [⟨some 3, none, .d (.mv (.c (.int .i64 0)))⟩])
  (.seq (.seq (.dreg [] [([], ⟨some 4, none, .d (.mv (.t 0))⟩),
    ([], ⟨some 5, none, .d (.nilck (.t 4))⟩),
    ([], ⟨some 6, none, .d (.fa 1 (.t 5))⟩),
    ([], ⟨some 7, none, .d (.load false 1 (.t 6))⟩),
    ([], ⟨some 8, none, .d (.mv (.t 0))⟩),
    ([], ⟨some 9, none, .d (.nilck (.t 8))⟩),
    ([], ⟨some 10, none, .d (.fa 0 (.t 9))⟩),
    ([], ⟨some 11, none, .d (.load false 1 (.t 10))⟩),
    ([], ⟨some 12, none, .d (.len (.t 11))⟩)] [⟨some 13, none, .d (.bin .arith .lss (.t 7) (.t 12))⟩])
  (.cond (.t 13) (.dreg [] [([], ⟨some 14, none, .d (.mv (.t 0))⟩),
     ([], ⟨some 15, none, .d (.nilck (.t 14))⟩),
     ([], ⟨some 16, none, .d (.fa 0 (.t 15))⟩),
     ([], ⟨some 17, none, .d (.load false 1 (.t 16))⟩),
     ([], ⟨some 18, none, .d (.mv (.t 0))⟩),
     ([], ⟨some 19, none, .d (.nilck (.t 18))⟩),
     ([], ⟨some 20, none, .d (.fa 1 (.t 19))⟩),
     ([], ⟨some 21, none, .d (.load false 1 (.t 20))⟩)] [⟨some 22, none, .d (.ia 1 (.t 17) (.t 21))⟩,
     ⟨some 23, none, .d (.load false 1 (.t 22))⟩,
     ⟨some 24, none, .d (.conv .i64 (.t 23))⟩,
     ⟨some 3, none, .d (.mv (.t 24))⟩]) (.skip)))
  (.seq (.reg [⟨some 25, none, .d (.mv (.t 0))⟩,
    ⟨some 26, none, .d (.nilck (.t 25))⟩,
    ⟨some 27, none, .d (.fa 1 (.t 26))⟩,
    ⟨some 28, none, .d (.load false 1 (.t 27))⟩,
    ⟨some 29, none, .d (.bin .arith .add (.t 28) (.c (.int .i64 1)))⟩,
    ⟨some 30, none, .d (.nilck (.t 25))⟩,
    ⟨some 31, none, .d (.fa 1 (.t 30))⟩,
    ⟨none, none, .w (.store 1 (.t 31) (.t 29))⟩])
  (.seq (.reg [⟨some 32, none, .d (.mv (.t 0))⟩,
    ⟨some 33, none, .d (.mv (.t 0))⟩,
    ⟨some 34, none, .d (.nilck (.t 33))⟩,
    ⟨some 35, none, .d (.fa 2 (.t 34))⟩,
    ⟨some 36, none, .d (.load false 1 (.t 35))⟩,
    ⟨some 37, none, .d (.bin .arith .mul (.t 36) (.c (.int .u64 6364136223846793005)))⟩,
    ⟨some 38, none, .d (.mv (.t 3))⟩,
    ⟨some 39, none, .d (.conv .u64 (.t 38))⟩,
    ⟨some 40, none, .d (.bin .arith .add (.t 37) (.t 39))⟩,
    ⟨some 41, none, .d (.bin .arith .add (.t 40) (.c (.int .u64 462197)))⟩,
    ⟨some 42, none, .d (.nilck (.t 32))⟩,
    ⟨some 43, none, .d (.fa 2 (.t 42))⟩,
    ⟨none, none, .w (.store 1 (.t 43) (.t 41))⟩])
  (.seq (.seq (.dreg [] [([], ⟨some 44, none, .d (.mv (.t 0))⟩),
    ([], ⟨some 45, none, .d (.nilck (.t 44))⟩),
    ([], ⟨some 46, none, .d (.fa 1 (.t 45))⟩),
    ([], ⟨some 47, none, .d (.load false 1 (.t 46))⟩),
    ([], ⟨some 48, none, .d (.mv (.t 0))⟩),
    ([], ⟨some 49, none, .d (.nilck (.t 48))⟩),
    ([], ⟨some 50, none, .d (.fa 0 (.t 49))⟩),
    ([], ⟨some 51, none, .d (.load false 1 (.t 50))⟩),
    ([], ⟨some 52, none, .d (.len (.t 51))⟩)] [⟨some 53, none, .d (.bin .arith .leq (.t 47) (.t 52))⟩])
  (.cond (.t 53) (.seq (.reg [⟨some 54, none, .d (.mv (.t 3))⟩,
     ⟨some 2, none, .d (.mv (.t 54))⟩])
   (.ret)) (.skip)))
  (.seq (.reg [⟨some 55, none, .d (.mv (.t 0))⟩,
    ⟨some 56, none, .d (.nilck (.t 55))⟩,
    ⟨some 57, none, .d (.fa 2 (.t 56))⟩,
    ⟨some 58, none, .d (.load false 1 (.t 57))⟩,
    ⟨some 59, none, .d (.bin .arith .shr (.t 58) (.c (.int .u64 40)))⟩,
    ⟨some 60, none, .d (.bin .arith .and (.t 59) (.c (.int .u64 255)))⟩,
    ⟨some 61, none, .d (.conv .i64 (.t 60))⟩,
    ⟨some 2, none, .d (.mv (.t 61))⟩])
  (.ret))))))), [.tmp 2]⟩
def n_next : Nat → Option Ann := fun _ => none
abbrev k_next : List Nat := [0, 2, 3, 13, 53]
abbrev o_next : List Nat := []
def c_next : Con
  | [.bx 1000000 0], [.box [.p v, .p (.int .i64 a), .p (.int .u64 s)]] => match slU v with
    | some l => if 0 ≤ a ∧ a ≤ 1000000 then some (.p (.int .i64 (nxR l (a, s))), [.box [.p v, .p (.int .i64 (a + 1)), .p (.int .u64 (nxS l (a, s)))]], []) else none
    | none => none
  | _, _ => none
theorem s_next {P : Program} (hm : P.follows .mixedOrders = true) {Γ : Gam} (hΓ : GS P Γ) {n : FuncId} (is : Is P n a_next)  : Says P n c_next := by
  intro args ext r ext' fs h
  unfold c_next at h
  split at h
  case h_2 => cases h
  rename_i v a s
  split at h
  case h_2 => cases h
  rename_i l hv
  split at h
  case isFalse => cases h
  rename_i hc
  obtain ⟨h0, h1⟩ := hc
  simp only [Option.some.injEq, Prod.mk.injEq] at h
  obtain ⟨rfl, rfl, rfl⟩ := h
  obtain ⟨hv1, hr⟩ := slU_out hv
  have hw1 : IntKind.i64.wrap (a + 1) = a + 1 := wrap64 (by omega) (by omega)
  refine is.goX hm hΓ k_next (1000000 :: o_next) (by simp [a_next]) (by simp) ?_
  rcases hv1 with rfl | ⟨rfl, rfl⟩
  · by_cases hlt : a < l.length
    · have hn : ((a.toNat : Nat) : Int) = a := by omega
      have hb : l.getD a.toNat 0 = nxB l a := by simp [nxB, hlt]
      have hg := u8s_get (l := l) (i := a.toNat) (by omega)
      have hb2 := nxB_b hr h0
      have hw : IntKind.i64.wrap (nxB l a) = nxB l a := wrap64 (by omega) (by omega)
      rw [hb] at hg
      have h2 : a + 1 ≤ l.length := by omega
      simp only [a_next, u8s_len, hlt, hg, hw, hw1, h0, h2, shfI, List.zipIdx_cons, List.zipIdx_nil, ↓SP, SQ, Gam.add, stepM, callC, argC, lendO, nmBy, nmC, likeL, likeB, plainOb, offs, exL, X, F, trP, trO, stepD, stepW, newA, SV.tr, SV.trL, fz, allP, Ob.tr, loadA, cellsA, SV.cells, binA, binI, eqOut, isSl, isPt, natOf, callee, snap, SV.refsL, SV.refs, thaw, fzAll, loA, hiA, elemOf, partsA, buildA, putCells, ↓reduceIte, reduceCtorEq, okCell, Nat.reduceAdd, Nat.reduceEqDiff, Nat.reduceSub, Nat.reduceMul, Nat.reduceLeDiff, Nat.reduceLT, Nat.reduceBEq, PV.scal, PV.scalL, SV.scal, SV.scalL, Ob.scal, PV.isCell, pure', resO]
      have e1 : nxR l (a, s) = nxB l a := by simp [nxR, h2]
      rw [e1]
      refine finA_gen [] trivial (by simp [retA, rvA, mkE_cons, mk_nil, mkO_cons, mkO_nil, loadA, SV.tr, SV.trL, nmF, rn_nil, rn_cons1, rn_cons2, plainOb, SV.refsL, SV.refs, Ob.refs, X, F, List.range_succ, mkO, setO_mk]; rfl) ?_ ?_ ?_ ?_ ?_ ?_ ?_ <;> simp [nxS, retA, rvA, mkE_cons, mk_nil, mkO_cons, mkO_nil, loadA, SV.tr, SV.trL, nmF, rn_nil, rn_cons1, rn_cons2, plainOb, SV.refsL, SV.refs, Ob.refs, X, F, List.range_succ, mkO, setO_mk]
    · have hb : nxB l a = 0 := by simp [nxB, hlt]
      have hw : IntKind.i64.wrap 0 = 0 := rfl
      have h2 : ¬ a + 1 ≤ l.length := by omega
      simp only [a_next, u8s_len, hlt, hw1, h0, h2, shfI, Int.reduceLT, bitA_and, List.zipIdx_cons, List.zipIdx_nil, ↓SP, SQ, Gam.add, stepM, callC, argC, lendO, nmBy, nmC, likeL, likeB, plainOb, offs, exL, X, F, trP, trO, stepD, stepW, newA, SV.tr, SV.trL, fz, allP, Ob.tr, loadA, cellsA, SV.cells, binA, binI, eqOut, isSl, isPt, natOf, callee, snap, SV.refsL, SV.refs, thaw, fzAll, loA, hiA, elemOf, partsA, buildA, putCells, ↓reduceIte, reduceCtorEq, okCell, Nat.reduceAdd, Nat.reduceEqDiff, Nat.reduceSub, Nat.reduceMul, Nat.reduceLeDiff, Nat.reduceLT, Nat.reduceBEq, PV.scal, PV.scalL, SV.scal, SV.scalL, Ob.scal, PV.isCell, pure', resO]
      have e1 : nxR l (a, s) = IntKind.i64.wrap (andW .u64 ((nxS l (a, s)).fdiv (2 ^ min (Int.toNat 40) IntKind.u64.bits)) 255) := by simp only [nxR, h2, if_false]
      rw [e1]
      refine finA_gen [] trivial (by simp [retA, rvA, mkE_cons, mk_nil, mkO_cons, mkO_nil, loadA, SV.tr, SV.trL, nmF, rn_nil, rn_cons1, rn_cons2, plainOb, SV.refsL, SV.refs, Ob.refs, X, F, List.range_succ, mkO, setO_mk]; rfl) ?_ ?_ ?_ ?_ ?_ ?_ ?_ <;> simp [nxS, hb, retA, rvA, mkE_cons, mk_nil, mkO_cons, mkO_nil, loadA, SV.tr, SV.trL, nmF, rn_nil, rn_cons1, rn_cons2, plainOb, SV.refsL, SV.refs, Ob.refs, X, F, List.range_succ, mkO, setO_mk]
  · have hlt : ¬ a < (([] : List Int).length : Int) := by simp; omega
    have hlt' : ¬ a < ((0 : Nat) : Int) := by omega
    have hw : IntKind.i64.wrap 0 = 0 := rfl
    have hb : nxB [] a = 0 := by simp [nxB]
    have h2' : ¬ a + 1 ≤ ((0 : Nat) : Int) := by omega
    have h2 : ¬ a + 1 ≤ (([] : List Int).length : Int) := by simp; omega
    simp only [a_next, hlt', hw1, h0, h2', shfI, Int.reduceLT, bitA_and, List.zipIdx_cons, List.zipIdx_nil, ↓SP, SQ, Gam.add, stepM, callC, argC, lendO, nmBy, nmC, likeL, likeB, plainOb, offs, exL, X, F, trP, trO, stepD, stepW, newA, SV.tr, SV.trL, fz, allP, Ob.tr, loadA, cellsA, SV.cells, binA, binI, eqOut, isSl, isPt, natOf, callee, snap, SV.refsL, SV.refs, thaw, fzAll, loA, hiA, elemOf, partsA, buildA, putCells, ↓reduceIte, reduceCtorEq, okCell, Nat.reduceAdd, Nat.reduceEqDiff, Nat.reduceSub, Nat.reduceMul, Nat.reduceLeDiff, Nat.reduceLT, Nat.reduceBEq, PV.scal, PV.scalL, SV.scal, SV.scalL, Ob.scal, PV.isCell, pure', resO]
    have e1 : nxR [] (a, s) = IntKind.i64.wrap (andW .u64 ((nxS [] (a, s)).fdiv (2 ^ min (Int.toNat 40) IntKind.u64.bits)) 255) := by simp only [nxR, h2, if_false]
    rw [e1]
    refine finA_gen [] trivial (by simp [retA, rvA, mkE_cons, mk_nil, mkO_cons, mkO_nil, loadA, SV.tr, SV.trL, nmF, rn_nil, rn_cons1, rn_cons2, plainOb, SV.refsL, SV.refs, Ob.refs, X, F, List.range_succ, mkO, setO_mk]; rfl) ?_ ?_ ?_ ?_ ?_ ?_ ?_ <;> simp [nxS, hb, retA, rvA, mkE_cons, mk_nil, mkO_cons, mkO_nil, loadA, SV.tr, SV.trL, nmF, rn_nil, rn_cons1, rn_cons2, plainOb, SV.refsL, SV.refs, Ob.refs, X, F, List.range_succ, mkO, setO_mk]
def pkV (l : List Int) (n : Int) (c : Cu) : Int := if n ≤ 1 then 0 else (nxR l c).tmod n
def pkC (l : List Int) (n : Int) (c : Cu) : Cu := if n ≤ 1 then c else nxC l c
theorem pkV_b {l : List Int} (hl : ∀ x ∈ l, 0 ≤ x ∧ x ≤ 255) {n : Int} {c : Cu} (h0 : 0 ≤ c.1) : 0 ≤ pkV l n c ∧ (pkV l n c < n ∨ pkV l n c = 0) := by
  unfold pkV
  split
  · exact ⟨by omega, .inr rfl⟩
  · have := nxR_b hl h0
    exact ⟨Int.tmod_nonneg _ this.1, .inl (Int.tmod_lt_of_pos _ (by omega))⟩
/-- Where a cursor stands, at most. -/
def CuA (c : Cu) (b : Int) : Prop := 0 ≤ c.1 ∧ c.1 ≤ b
theorem CuA.pk {c : Cu} {b : Int} (h : CuA c b) (l : List Int) (n : Int) : CuA (pkC l n c) (b + 1) := by
  unfold pkC
  split
  · exact ⟨h.1, by have := h.2; omega⟩
  · exact ⟨by have := h.1; simp only [nxC]; omega, by have := h.2; simp only [nxC]; omega⟩
theorem CuA.mono {c : Cu} {b b' : Int} (h : CuA c b) (hb : b ≤ b') : CuA c b' := ⟨h.1, Int.le_trans h.2 hb⟩
/-- Drawn from two bytes. -/
def pkY (l : List Int) (n : Int) (c : Cu) : Int := (nxR l c * 256 + nxR l (nxC l c)).tmod n
def a_pick (f_next : FuncId) : AFn := ⟨2, 
  .seq (.reg [⟨some 4, none, .d (.mv (.c (.int .i64 0)))⟩])
  (.seq (.seq (.reg [⟨some 6, none, .d (.mv (.t 1))⟩,
    ⟨some 7, none, .d (.bin .arith .leq (.t 6) (.c (.int .i64 1)))⟩])
  (.cond (.t 7) (.seq (.reg [⟨some 4, none, .d (.mv (.c (.int .i64 0)))⟩])
   (.ret)) (.skip)))
  (.seq (.reg [⟨some 8, none, .d (.mv (.t 0))⟩,
    ⟨some 9, none, .w (.callL (.f f_next) [(.t 8)] [1000000] 0 false)⟩,
    ⟨some 5, none, .d (.mv (.t 9))⟩])
  (.seq (.seq (.reg [⟨some 10, none, .d (.mv (.t 1))⟩,
    ⟨some 11, none, .d (.bin .arith .gtr (.t 10) (.c (.int .i64 200)))⟩])
  (.cond (.t 11) (.reg [⟨some 12, none, .d (.mv (.t 5))⟩,
     ⟨some 13, none, .d (.bin .arith .mul (.t 12) (.c (.int .i64 256)))⟩,
     ⟨some 14, none, .d (.mv (.t 0))⟩,
     ⟨some 15, none, .w (.callL (.f f_next) [(.t 14)] [1000000] 0 false)⟩,
     ⟨some 16, none, .d (.bin .arith .add (.t 13) (.t 15))⟩,
     ⟨some 5, none, .d (.mv (.t 16))⟩]) (.skip)))
  (.seq (.reg [⟨some 17, none, .d (.mv (.t 5))⟩,
    ⟨some 18, none, .d (.mv (.t 1))⟩,
    ⟨some 19, none, .d (.bin .arith .rem (.t 17) (.t 18))⟩,
    ⟨some 4, none, .d (.mv (.t 19))⟩])
  (.ret))))), [.tmp 4]⟩
def n_pick : Nat → Option Ann := fun d => if d = 9 then some ⟨[1000000], 0, false⟩ else if d = 15 then some ⟨[1000000], 0, false⟩ else none
abbrev k_pick : List Nat := [0, 1, 4, 5, 7, 11]
abbrev o_pick : List Nat := []
def c_pick : Con
  | [.bx 1000000 0, .p (.int .i64 n)], [.box [.p v, .p (.int .i64 a), .p (.int .u64 s)]] => match slU v with
    | some l => if 0 ≤ a ∧ a ≤ 1000 ∧ (n ≤ 200 ∨ n ≤ 5000) then some (.p (.int .i64 (if n ≤ 200 then pkV l n (a, s) else pkY l n (a, s))), [.box [.p v, .p (.int .i64 (if n ≤ 200 then pkC l n (a, s) else nxC l (nxC l (a, s))).1), .p (.int .u64 (if n ≤ 200 then pkC l n (a, s) else nxC l (nxC l (a, s))).2)]], []) else none
    | none => none
  | _, _ => none
theorem s_pick {P : Program} (hm : P.follows .mixedOrders = true) {Γ : Gam} (hΓ : GS P Γ) {n : FuncId} {f_next : FuncId} (is : Is P n (a_pick f_next)) (h_next : Γ f_next = c_next)  : Says P n c_pick := by
  intro args ext r ext' fs h
  unfold c_pick at h
  split at h
  case h_2 => cases h
  rename_i n' v a s
  split at h
  case h_2 => cases h
  rename_i l hv
  split at h
  case isFalse => cases h
  rename_i hc
  obtain ⟨h0, h1, hn⟩ := hc
  simp only [Option.some.injEq, Prod.mk.injEq] at h
  obtain ⟨rfl, rfl, rfl⟩ := h
  refine is.goX hm hΓ k_pick (1000000 :: o_pick) (by simp [a_pick]) (by simp) ?_
  by_cases hle : n' ≤ 1
  · have h200 : n' ≤ 200 := by omega
    have e1 : pkV l n' (a, s) = 0 := by simp [pkV, hle]
    have e2 : pkC l n' (a, s) = (a, s) := by simp [pkC, hle]
    simp only [h200, if_true, e1, e2]
    simp only [a_pick, hle, List.zipIdx_cons, List.zipIdx_nil, ↓SP, SQ, Gam.add, stepM, callC, argC, lendO, nmBy, nmC, likeL, likeB, plainOb, offs, exL, X, F, trP, trO, stepD, stepW, newA, SV.tr, SV.trL, fz, allP, Ob.tr, loadA, cellsA, SV.cells, binA, binI, eqOut, isSl, isPt, natOf, callee, snap, SV.refsL, SV.refs, thaw, fzAll, loA, hiA, elemOf, partsA, buildA, putCells, ↓reduceIte, reduceCtorEq, okCell, Nat.reduceAdd, Nat.reduceEqDiff, Nat.reduceSub, Nat.reduceMul, Nat.reduceLeDiff, Nat.reduceLT, Nat.reduceBEq, PV.scal, PV.scalL, SV.scal, SV.scalL, Ob.scal, PV.isCell, pure', resO]
    refine finA_gen [] trivial (by simp [retA, rvA, mkE_cons, mk_nil, mkO_cons, mkO_nil, loadA, SV.tr, SV.trL, nmF, rn_nil, rn_cons1, rn_cons2, plainOb, SV.refsL, SV.refs, Ob.refs, X, F, List.range_succ, mkO, setO_mk]; rfl) ?_ ?_ ?_ ?_ ?_ ?_ ?_ <;> simp [retA, rvA, mkE_cons, mk_nil, mkO_cons, mkO_nil, loadA, SV.tr, SV.trL, nmF, rn_nil, rn_cons1, rn_cons2, plainOb, SV.refsL, SV.refs, Ob.refs, X, F, List.range_succ, mkO, setO_mk]
  · have h3 : a ≤ 1000000 := by omega
    have hb := nxR_b (slU_out hv).2 (c := (a, s)) h0
    have hz : ¬ n' = 0 := by omega
    by_cases h200 : n' ≤ 200
    · have h2 : ¬ n' > 200 := by omega
      have e1 : pkV l n' (a, s) = (nxR l (a, s)).tmod n' := by simp [pkV, hle]
      have e2 : pkC l n' (a, s) = (a + 1, nxS l (a, s)) := by simp [pkC, nxC, hle]
      simp only [h200, if_true, e1, e2]
      simp only [a_pick, h_next, c_next, hv, hle, h0, h3, h2, hz, List.zipIdx_cons, List.zipIdx_nil, ↓SP, SQ, Gam.add, stepM, callC, argC, lendO, nmBy, nmC, likeL, likeB, plainOb, offs, exL, X, F, trP, trO, stepD, stepW, newA, SV.tr, SV.trL, fz, allP, Ob.tr, loadA, cellsA, SV.cells, binA, binI, eqOut, isSl, isPt, natOf, callee, snap, SV.refsL, SV.refs, thaw, fzAll, loA, hiA, elemOf, partsA, buildA, putCells, ↓reduceIte, reduceCtorEq, okCell, Nat.reduceAdd, Nat.reduceEqDiff, Nat.reduceSub, Nat.reduceMul, Nat.reduceLeDiff, Nat.reduceLT, Nat.reduceBEq, PV.scal, PV.scalL, SV.scal, SV.scalL, Ob.scal, PV.isCell, pure', resO]
      refine finA_gen [] trivial (by simp [retA, rvA, mkE_cons, mk_nil, mkO_cons, mkO_nil, loadA, SV.tr, SV.trL, nmF, rn_nil, rn_cons1, rn_cons2, plainOb, SV.refsL, SV.refs, Ob.refs, X, F, List.range_succ, mkO, setO_mk]; rfl) ?_ ?_ ?_ ?_ ?_ ?_ ?_ <;> simp [retA, rvA, mkE_cons, mk_nil, mkO_cons, mkO_nil, loadA, SV.tr, SV.trL, nmF, rn_nil, rn_cons1, rn_cons2, plainOb, SV.refsL, SV.refs, Ob.refs, X, F, List.range_succ, mkO, setO_mk]
    · have h2 : n' > 200 := by omega
      have hb2 := nxR_b (slU_out hv).2 (c := nxC l (a, s)) (by simp only [nxC]; omega)
      have h4 : 0 ≤ a + 1 := by omega
      have h5 : a + 1 ≤ 1000000 := by omega
      have e1 : pkY l n' (a, s) = (nxR l (a, s) * 256 + nxR l (a + 1, nxS l (a, s))).tmod n' := rfl
      have e2 : nxC l (nxC l (a, s)) = (a + 1 + 1, nxS l (a + 1, nxS l (a, s))) := rfl
      have hcx : nxC l (a, s) = (a + 1, nxS l (a, s)) := rfl
      rw [hcx] at hb2
      have w1 : IntKind.i64.wrap (nxR l (a, s) * 256) = nxR l (a, s) * 256 := wrap64 (by omega) (by omega)
      have w2 : IntKind.i64.wrap (nxR l (a, s) * 256 + nxR l (a + 1, nxS l (a, s))) = nxR l (a, s) * 256 + nxR l (a + 1, nxS l (a, s)) := wrap64 (by omega) (by omega)
      simp only [h200, if_false, e1, e2]
      simp only [a_pick, h_next, c_next, hv, hle, h0, h3, h4, h5, h2, hz, w1, w2, List.zipIdx_cons, List.zipIdx_nil, ↓SP, SQ, Gam.add, stepM, callC, argC, lendO, nmBy, nmC, likeL, likeB, plainOb, offs, exL, X, F, trP, trO, stepD, stepW, newA, SV.tr, SV.trL, fz, allP, Ob.tr, loadA, cellsA, SV.cells, binA, binI, eqOut, isSl, isPt, natOf, callee, snap, SV.refsL, SV.refs, thaw, fzAll, loA, hiA, elemOf, partsA, buildA, putCells, ↓reduceIte, reduceCtorEq, okCell, Nat.reduceAdd, Nat.reduceEqDiff, Nat.reduceSub, Nat.reduceMul, Nat.reduceLeDiff, Nat.reduceLT, Nat.reduceBEq, PV.scal, PV.scalL, SV.scal, SV.scalL, Ob.scal, PV.isCell, pure', resO]
      refine finA_gen [] trivial (by simp [retA, rvA, mkE_cons, mk_nil, mkO_cons, mkO_nil, loadA, SV.tr, SV.trL, nmF, rn_nil, rn_cons1, rn_cons2, plainOb, SV.refsL, SV.refs, Ob.refs, X, F, List.range_succ, mkO, setO_mk]; rfl) ?_ ?_ ?_ ?_ ?_ ?_ ?_ <;> simp [retA, rvA, mkE_cons, mk_nil, mkO_cons, mkO_nil, loadA, SV.tr, SV.trL, nmF, rn_nil, rn_cons1, rn_cons2, plainOb, SV.refsL, SV.refs, Ob.refs, X, F, List.range_succ, mkO, setO_mk]
def a_one (f_pick : FuncId) : AFn := ⟨2, 
  .seq (.reg [⟨some 4, none, .d (.mv (.c (.bool false)))⟩])
  (.seq (.reg [⟨some 5, none, .d (.mv (.t 0))⟩,
    ⟨some 6, none, .d (.mv (.t 1))⟩,
    ⟨some 7, none, .w (.callL (.f f_pick) [(.t 5), (.t 6)] [1000000] 0 false)⟩,
    ⟨some 8, none, .d (.bin .arith .eql (.t 7) (.c (.int .i64 0)))⟩,
    ⟨some 4, none, .d (.mv (.t 8))⟩])
  (.ret)), [.tmp 4]⟩
def n_one : Nat → Option Ann := fun d => if d = 7 then some ⟨[1000000], 0, false⟩ else none
abbrev k_one : List Nat := [0, 1, 4]
abbrev o_one : List Nat := []
def c_one : Con
  | [.bx 1000000 0, .p (.int .i64 n)], [.box [.p v, .p (.int .i64 a), .p (.int .u64 s)]] => match slU v with
    | some l => if 0 ≤ a ∧ a ≤ 1000 ∧ n ≤ 200 then some (.p (.bool (pkV l n (a, s) == 0)), [.box [.p v, .p (.int .i64 (pkC l n (a, s)).1), .p (.int .u64 (pkC l n (a, s)).2)]], []) else none
    | none => none
  | _, _ => none
theorem s_one {P : Program} (hm : P.follows .mixedOrders = true) {Γ : Gam} (hΓ : GS P Γ) {n : FuncId} {f_pick : FuncId} (is : Is P n (a_one f_pick)) (h_pick : Γ f_pick = c_pick)  : Says P n c_one := by
  intro args ext r ext' fs h
  unfold c_one at h
  split at h
  case h_2 => cases h
  rename_i n' v a s
  split at h
  case h_2 => cases h
  rename_i l hv
  split at h
  case isFalse => cases h
  rename_i hc
  obtain ⟨h0, h1, hn⟩ := hc
  simp only [Option.some.injEq, Prod.mk.injEq] at h
  obtain ⟨rfl, rfl, rfl⟩ := h
  refine is.goX hm hΓ k_one (1000000 :: o_one) (by simp [a_one]) (by simp) ?_
  simp only [a_one, h_pick, c_pick, hv, h0, h1, hn, List.zipIdx_cons, List.zipIdx_nil, ↓SP, SQ, Gam.add, stepM, callC, argC, lendO, nmBy, nmC, likeL, likeB, plainOb, offs, exL, X, F, trP, trO, stepD, stepW, newA, SV.tr, SV.trL, fz, allP, Ob.tr, loadA, cellsA, SV.cells, binA, binI, eqOut, isSl, isPt, natOf, callee, snap, SV.refsL, SV.refs, thaw, fzAll, loA, hiA, elemOf, partsA, buildA, putCells, ↓reduceIte, reduceCtorEq, okCell, Nat.reduceAdd, Nat.reduceEqDiff, Nat.reduceSub, Nat.reduceMul, Nat.reduceLeDiff, Nat.reduceLT, Nat.reduceBEq, PV.scal, PV.scalL, SV.scal, SV.scalL, Ob.scal, PV.isCell, pure', resO]
  refine finA_gen [] trivial (by simp [retA, rvA, mkE_cons, mk_nil, mkO_cons, mkO_nil, loadA, SV.tr, SV.trL, nmF, rn_nil, rn_cons1, rn_cons2, plainOb, SV.refsL, SV.refs, Ob.refs, X, F, List.range_succ, mkO, setO_mk]; rfl) ?_ ?_ ?_ ?_ ?_ ?_ ?_ <;> simp [retA, rvA, mkE_cons, mk_nil, mkO_cons, mkO_nil, loadA, SV.tr, SV.trL, nmF, rn_nil, rn_cons1, rn_cons2, plainOb, SV.refsL, SV.refs, Ob.refs, X, F, List.range_succ, mkO, setO_mk]
def a_among (f_pick : FuncId) : AFn := ⟨2, 
  .seq (.reg [⟨some 4, none, .d (.mv (.c (.int .i64 0)))⟩])
  (.seq (.reg [⟨some 5, none, .d (.mv (.t 1))⟩,
    ⟨some 6, none, .d (.mv (.t 0))⟩,
    ⟨some 7, none, .d (.mv (.t 1))⟩,
    ⟨some 8, none, .d (.len (.t 7))⟩,
    ⟨some 9, none, .w (.callL (.f f_pick) [(.t 6), (.t 8)] [1000000] 0 false)⟩,
    ⟨some 10, none, .d (.ia 1 (.t 5) (.t 9))⟩,
    ⟨some 11, none, .d (.load false 1 (.t 10))⟩,
    ⟨some 4, none, .d (.mv (.t 11))⟩])
  (.ret)), [.tmp 4]⟩
def n_among : Nat → Option Ann := fun d => if d = 9 then some ⟨[1000000], 0, false⟩ else none
abbrev k_among : List Nat := [0, 1, 4]
abbrev o_among : List Nat := []
def amV (l xs : List Int) (c : Cu) : Int := xs.getD (pkV l xs.length c).toNat 0
def c_among : Con
  | [.bx 1000000 0, .p (.sl 1 xs)], [.box [.p v, .p (.int .i64 a), .p (.int .u64 s)]] => match slU v with
    | some l => if 0 ≤ a ∧ a ≤ 1000 ∧ 1 ≤ xs.length ∧ xs.length ≤ 200 ∧ isI xs = true then some (.p (.int .i64 (amV l (ofI xs) (a, s))), [.box [.p v, .p (.int .i64 (pkC l xs.length (a, s)).1), .p (.int .u64 (pkC l xs.length (a, s)).2)]], []) else none
    | none => none
  | _, _ => none
theorem s_among {P : Program} (hm : P.follows .mixedOrders = true) {Γ : Gam} (hΓ : GS P Γ) {n : FuncId} {f_pick : FuncId} (is : Is P n (a_among f_pick)) (h_pick : Γ f_pick = c_pick)  : Says P n c_among := by
  intro args ext r ext' fs h
  unfold c_among at h
  split at h
  case h_2 => cases h
  rename_i xs v a s
  split at h
  case h_2 => cases h
  rename_i l hv
  split at h
  case isFalse => cases h
  rename_i hc
  obtain ⟨h0, h1, hl1, hl2, hi⟩ := hc
  obtain ⟨xs, rfl⟩ := isI_out hi
  simp only [Option.some.injEq, Prod.mk.injEq, ofI_ints, ints_len] at h hl1 hl2
  obtain ⟨rfl, rfl, rfl⟩ := h
  have hb := pkV_b (slU_out hv).2 (n := (xs.length : Int)) (c := (a, s)) h0
  have hn : (xs.length : Int) ≤ 200 := by omega
  have hb0 := hb.1
  have hg := ints_get (l := xs) (i := (pkV l (xs.length : Int) (a, s)).toNat) (by omega)
  refine is.goX hm hΓ k_among (1000000 :: o_among) (by simp [a_among]) (by simp) ?_
  simp only [a_among, h_pick, c_pick, hv, h0, h1, hn, hb0, hg, List.zipIdx_cons, List.zipIdx_nil, ↓SP, SQ, Gam.add, stepM, callC, argC, lendO, nmBy, nmC, likeL, likeB, plainOb, offs, exL, X, F, trP, trO, stepD, stepW, newA, SV.tr, SV.trL, fz, allP, Ob.tr, loadA, cellsA, SV.cells, binA, binI, eqOut, isSl, isPt, natOf, callee, snap, SV.refsL, SV.refs, thaw, fzAll, loA, hiA, elemOf, partsA, buildA, putCells, ↓reduceIte, reduceCtorEq, okCell, Nat.reduceAdd, Nat.reduceEqDiff, Nat.reduceSub, Nat.reduceMul, Nat.reduceLeDiff, Nat.reduceLT, Nat.reduceBEq, PV.scal, PV.scalL, SV.scal, SV.scalL, Ob.scal, PV.isCell, pure', resO]
  refine finA_gen [] trivial (by simp [retA, rvA, mkE_cons, mk_nil, mkO_cons, mkO_nil, loadA, SV.tr, SV.trL, nmF, rn_nil, rn_cons1, rn_cons2, plainOb, SV.refsL, SV.refs, Ob.refs, X, F, List.range_succ, mkO, setO_mk]; rfl) ?_ ?_ ?_ ?_ ?_ ?_ ?_ <;> simp [amV, retA, rvA, mkE_cons, mk_nil, mkO_cons, mkO_nil, loadA, SV.tr, SV.trL, nmF, rn_nil, rn_cons1, rn_cons2, plainOb, SV.refsL, SV.refs, Ob.refs, X, F, List.range_succ, mkO, setO_mk]
abbrev By := {n : Int // 0 ≤ n ∧ n ≤ 255}
instance : Inhabited By := ⟨⟨0, by omega⟩⟩
def byE (n : By) : PV := .int .u8 n.1
theorem slU_bys (l : List By) : slU (.sl 1 (l.map byE)) = some (l.map Subtype.val) := by
  have h1 : (l.map byE).all isU = true := by
    simp only [List.all_map, List.all_eq_true, Function.comp_def, byE, isU]
    intro x _
    have := x.2
    simp [this.1, this.2]
  simp only [slU, h1, if_true]
  simp [ofU, byE, Function.comp_def]
theorem open_bytes' {H : Type} {enc : TypeId × Value → H} {P : Program} {W : World} {sp : Nat → Bool} {b0 : Nat} {t e : TypeId} (ht : P.underlying t = some (.slice e)) (he : P.underlying e = some (.int .u8)) (hc : P.cellsOf e = 1) {v : Value} {fuel : Nat} {x : DataW H × List MemPlace} (hval : Cell.okWide P W .any b0 t v)
    (h : DataW.trod enc P W 0 sp true fuel t [v] = some x) : ∃ (pv : PV) (l : List Int), slU pv = some l ∧ l.length ≤ 9223372036854775807 ∧ PR W (All W) pv v := by
  rcases open_sl (α := By) (φ := byE) (fun _ => rfl) ht hc (fun cs y n hy hcl => by
    obtain ⟨c, rfl⟩ : ∃ c, cs = [c] := List.length_eq_one_iff.1 hcl
    obtain ⟨m, h1, _, w⟩ := DataW.trod_int he hy
    injection h1 with h1; subst h1
    simp only [Lit.wf, Bool.and_eq_true, decide_eq_true_eq] at w
    have w1 : (0 : Int) ≤ m := w.1
    have w2 : m ≤ 255 := w.2
    exact ⟨⟨m, w1, w2⟩, fun i hi => by simp [byE, PV.cells] at hi; subst hi; exact .int _ _⟩) hval h with ⟨l, hl, hp⟩ | hv
  · exact ⟨.sl 1 (l.map byE), l.map Subtype.val, slU_bys l, by simpa using hl, hp⟩
  · exact ⟨.nilsl, [], rfl, by simp, by rw [hv]; exact .nilsl⟩
theorem open_bytesV {H : Type} {enc : TypeId × Value → H} {P : Program} {W : World} {sp : Nat → Bool} {b0 : Nat} {t e : TypeId} (ht : P.underlying t = some (.slice e)) (he : P.underlying e = some (.int .u8)) (hc : P.cellsOf e = 1) {v : Value} {d : DataW H} {p : List MemPlace} (hv : Value.okWide P W .any b0 t v)
    (h : DataW.Trod enc P W 0 sp true t v d p) : ∃ (pv : PV) (l : List Int), slU pv = some l ∧ l.length ≤ 9223372036854775807 ∧ PR W (All W) pv v := by
  obtain ⟨fuel, hf⟩ := trod_slice_cells ht hv h
  exact open_bytes' ht he hc (cell_slice ht hv) hf
theorem cuEta (c : Cu) : (c.1, c.2) = c := rfl
theorem amV_mem {l xs : List Int} (hl : ∀ x ∈ l, 0 ≤ x ∧ x ≤ 255) {c : Cu} (h0 : 0 ≤ c.1) (hx : 1 ≤ xs.length) : amV l xs c ∈ xs := by
  have hb := pkV_b hl (n := (xs.length : Int)) (c := c) h0
  have hlt : (pkV l (xs.length : Int) c).toNat < xs.length := by omega
  unfold amV
  rw [show xs.getD (pkV l (xs.length : Int) c).toNat 0 = xs[(pkV l (xs.length : Int) c).toNat] by simp [hlt]]
  exact List.getElem_mem _
theorem slU_cells {v : PV} {l : List Int} (h : slU v = some l) : v.cells = [v] := by
  rcases (slU_out h).1 with rfl | ⟨rfl, rfl⟩ <;> rfl
theorem mul_wrap {a b : Nat} (h : a * b ≤ 4000000000000000000) : IntKind.i64.wrap ((a : Int) * (b : Int)) = ((a * b : Nat) : Int) := by
  rw [← Int.natCast_mul]
  generalize a * b = q at *
  exact wrap64 (by omega) (by omega)
/-- a doubt, drawn. -/
def dbD (l : List Int) (c : Cu) : Int := amV l [10, 4, 3, 2, 1, 7, 5] c
def dbP (l : List Int) (c : Cu) : Int := pkV l (dbD l c + 1) (pkC l 7 c)
def dbC2 (l : List Int) (c : Cu) : Cu := pkC l (dbD l c + 1) (pkC l 7 c)
def dbN (l : List Int) (c : Cu) : Int := amV l [1, 1, 0, dbD l c, (dbD l c).tdiv 2, dbP l c] (dbC2 l c)
def dbC3 (l : List Int) (c : Cu) : Cu := pkC l 6 (dbC2 l c)
def dbQ (l : List Int) (c : Cu) : Int := pkV l 40 (dbC3 l c)
def dbC4 (l : List Int) (c : Cu) : Cu := pkC l 40 (dbC3 l c)
def dbR (l : List Int) (c : Cu) : (Int × Int) × Cu :=
  if dbQ l c = 0 then ((dbN l c, amV l [0, 11, -1] (dbC4 l c)), pkC l 3 (dbC4 l c)) else if dbQ l c = 1 then ((amV l [-1, dbD l c + 1] (dbC4 l c), dbD l c), pkC l 2 (dbC4 l c)) else ((dbN l c, dbD l c), dbC4 l c)
theorem dbD_b {l : List Int} (hl : ∀ x ∈ l, 0 ≤ x ∧ x ≤ 255) {c : Cu} (h0 : 0 ≤ c.1) : 1 ≤ dbD l c ∧ dbD l c ≤ 10 :=
  (by decide : ∀ x ∈ ([10, 4, 3, 2, 1, 7, 5] : List Int), 1 ≤ x ∧ x ≤ 10) _ (amV_mem hl h0 (by decide))
def a_doubt7 (f_among : FuncId) (f_pick : FuncId) : AFn := ⟨1, 
  .seq (.reg [⟨some 2, none, .w (.alloc [.int .i64 0, .int .i64 0])⟩])
  (.seq (.reg [⟨some 4, none, .d (.mv (.t 0))⟩,
    ⟨some 5, none, .w (.bslice 1 [.int .i64 0, .int .i64 0, .int .i64 0, .int .i64 0, .int .i64 0, .int .i64 0, .int .i64 0] [(0, (.c (.int .i64 10))), (1, (.c (.int .i64 4))), (2, (.c (.int .i64 3))), (3, (.c (.int .i64 2))), (4, (.c (.int .i64 1))), (5, (.c (.int .i64 7))), (6, (.c (.int .i64 5)))])⟩,
    ⟨some 6, none, .w (.callL (.f f_among) [(.t 4), (.t 5)] [1000000] 0 true)⟩,
    ⟨some 7, none, .d (.build [.int .i64 0, .int .i64 0] [(1, 1, (.t 6))])⟩,
    ⟨some 3, none, .w (.alloc [.int .i64 0, .int .i64 0])⟩,
    ⟨none, none, .w (.store 2 (.t 3) (.t 7))⟩])
  (.seq (.dreg [19] [([1000000, 19], ⟨some 8, none, .d (.mv (.t 0))⟩),
    ([1000000, 19], ⟨some 9, none, .d (.fa 1 (.t 3))⟩),
    ([1000000, 19], ⟨some 10, none, .d (.load false 1 (.t 9))⟩),
    ([1000000, 19], ⟨some 11, none, .d (.fa 1 (.t 3))⟩),
    ([1000000, 19], ⟨some 12, none, .d (.load false 1 (.t 11))⟩),
    ([1000000, 19], ⟨some 13, none, .d (.bin .arith .quo (.t 12) (.c (.int .i64 2)))⟩),
    ([19], ⟨some 14, none, .d (.mv (.t 0))⟩),
    ([19], ⟨some 15, none, .d (.fa 1 (.t 3))⟩),
    ([19], ⟨some 16, none, .d (.load false 1 (.t 15))⟩),
    ([19], ⟨some 17, none, .d (.bin .arith .add (.t 16) (.c (.int .i64 1)))⟩),
    ([19], ⟨some 18, none, .w (.callL (.f f_pick) [(.t 14), (.t 17)] [1000000] 0 false)⟩),
    ([], ⟨some 19, none, .w (.bslice 1 [.int .i64 0, .int .i64 0, .int .i64 0, .int .i64 0, .int .i64 0, .int .i64 0] [(0, (.c (.int .i64 1))), (1, (.c (.int .i64 1))), (2, (.c (.int .i64 0))), (3, (.t 10)), (4, (.t 13)), (5, (.t 18))])⟩)] [⟨some 20, none, .w (.callL (.f f_among) [(.t 8), (.t 19)] [1000000] 0 true)⟩,
    ⟨some 21, none, .d (.fa 0 (.t 3))⟩,
    ⟨none, none, .w (.store 1 (.t 21) (.t 20))⟩])
  (.seq (.seq (.reg [⟨some 22, none, .d (.mv (.t 0))⟩,
    ⟨some 23, none, .w (.callL (.f f_pick) [(.t 22), (.c (.int .i64 40))] [1000000] 0 false)⟩])
  (.block 0 (.seq (.reg [⟨some 25, none, .d (.bin .arith .eql (.t 23) (.c (.int .i64 0)))⟩,
     ⟨some 24, none, .d (.mv (.t 25))⟩])
   (.cond (.t 24) (.reg [⟨some 26, none, .d (.mv (.t 0))⟩,
      ⟨some 27, none, .w (.bslice 1 [.int .i64 0, .int .i64 0, .int .i64 0] [(0, (.c (.int .i64 0))), (1, (.c (.int .i64 11))), (2, (.c (.int .i64 (-1))))])⟩,
      ⟨some 28, none, .w (.callL (.f f_among) [(.t 26), (.t 27)] [1000000] 0 true)⟩,
      ⟨some 29, none, .d (.fa 1 (.t 3))⟩,
      ⟨none, none, .w (.store 1 (.t 29) (.t 28))⟩]) (.seq (.reg [⟨some 31, none, .d (.bin .arith .eql (.t 23) (.c (.int .i64 1)))⟩,
      ⟨some 30, none, .d (.mv (.t 31))⟩])
    (.cond (.t 30) (.reg [⟨some 32, none, .d (.mv (.t 0))⟩,
       ⟨some 33, none, .d (.fa 1 (.t 3))⟩,
       ⟨some 34, none, .d (.load false 1 (.t 33))⟩,
       ⟨some 35, none, .d (.bin .arith .add (.t 34) (.c (.int .i64 1)))⟩,
       ⟨some 36, none, .w (.bslice 1 [.int .i64 0, .int .i64 0] [(0, (.c (.int .i64 (-1)))), (1, (.t 35))])⟩,
       ⟨some 37, none, .w (.callL (.f f_among) [(.t 32), (.t 36)] [1000000] 0 true)⟩,
       ⟨some 38, none, .d (.fa 0 (.t 3))⟩,
       ⟨none, none, .w (.store 1 (.t 38) (.t 37))⟩]) (.skip)))))))
  (.seq (.reg [⟨some 39, none, .d (.load true 2 (.t 3))⟩,
    ⟨none, none, .w (.store 2 (.t 2) (.t 39))⟩])
  (.ret))))), [.cell 2 2 true]⟩
def n_doubt7 : Nat → Option Ann := fun d => if d = 6 then some ⟨[1000000], 0, true⟩ else if d = 18 then some ⟨[1000000], 0, false⟩ else if d = 20 then some ⟨[1000000], 0, true⟩ else if d = 23 then some ⟨[1000000], 0, false⟩ else if d = 28 then some ⟨[1000000], 0, true⟩ else if d = 37 then some ⟨[1000000], 0, true⟩ else none
abbrev k_doubt7 : List Nat := [0, 2, 3, 23, 24, 30]
abbrev o_doubt7 : List Nat := [2, 3, 5, 19, 27, 36]
def c_doubt7 : Con
  | [.bx 1000000 0], [.box [.p v, .p (.int .i64 a), .p (.int .u64 s)]] => match slU v with
    | some l => if 0 ≤ a ∧ a ≤ 900 then some (.ag [.p (.int .i64 (dbR l (a, s)).1.1), .p (.int .i64 (dbR l (a, s)).1.2)], [.box [.p v, .p (.int .i64 (dbR l (a, s)).2.1), .p (.int .u64 (dbR l (a, s)).2.2)]], []) else none
    | none => none
  | _, _ => none
theorem s_doubt7 {P : Program} (hm : P.follows .mixedOrders = true) {Γ : Gam} (hΓ : GS P Γ) {n : FuncId} {f_among : FuncId} {f_pick : FuncId} (is : Is P n (a_doubt7 f_among f_pick)) (h_among : Γ f_among = c_among) (h_pick : Γ f_pick = c_pick)  : Says P n c_doubt7 := by
  intro args ext r ext' fs h
  unfold c_doubt7 at h
  split at h
  case h_2 => cases h
  rename_i v a s
  split at h
  case h_2 => cases h
  rename_i l hv
  split at h
  case isFalse => cases h
  rename_i hc
  obtain ⟨h0, h1⟩ := hc
  simp only [Option.some.injEq, Prod.mk.injEq] at h
  obtain ⟨rfl, rfl, rfl⟩ := h
  have hl := (slU_out hv).2
  have ha0 : CuA (a, s) 900 := ⟨h0, h1⟩
  have h1' : a ≤ 1000 := by omega
  have hD := dbD_b hl (c := (a, s)) h0
  have ha1 := ha0.pk l 7
  have ha2 := ha1.pk l (dbD l (a, s) + 1)
  have ha3 := ha2.pk l 6
  have ha4 := ha3.pk l 40
  have q1 := ha1.1
  have q1' : (pkC l 7 (a, s)).1 ≤ 1000 := by have := ha1.2; omega
  have q2 : 0 ≤ (dbC2 l (a, s)).1 := ha2.1
  have q2' : (dbC2 l (a, s)).1 ≤ 1000 := by have := ha2.2; simp only [dbC2]; omega
  have q3 : 0 ≤ (dbC3 l (a, s)).1 := ha3.1
  have q3' : (dbC3 l (a, s)).1 ≤ 1000 := by have := ha3.2; simp only [dbC3, dbC2]; omega
  have q4 : 0 ≤ (dbC4 l (a, s)).1 := ha4.1
  have q4' : (dbC4 l (a, s)).1 ≤ 1000 := by have := ha4.2; simp only [dbC4, dbC3, dbC2]; omega
  have e0 : amV l [10, 4, 3, 2, 1, 7, 5] (a, s) = dbD l (a, s) := rfl
  have e1 : pkV l (dbD l (a, s) + 1) (pkC l 7 (a, s)) = dbP l (a, s) := rfl
  have e2 : pkC l (dbD l (a, s) + 1) (pkC l 7 (a, s)) = dbC2 l (a, s) := rfl
  have e3 : amV l [1, 1, 0, dbD l (a, s), (dbD l (a, s)).tdiv 2, dbP l (a, s)] (dbC2 l (a, s)) = dbN l (a, s) := rfl
  have e4 : pkC l 6 (dbC2 l (a, s)) = dbC3 l (a, s) := rfl
  have e5 : pkV l 40 (dbC3 l (a, s)) = dbQ l (a, s) := rfl
  have e6 : pkC l 40 (dbC3 l (a, s)) = dbC4 l (a, s) := rfl
  have w0 : IntKind.i64.wrap (dbD l (a, s) + 1) = dbD l (a, s) + 1 := wrap64 (by omega) (by omega)
  have w1 : IntKind.i64.wrap ((dbD l (a, s)).tdiv 2) = (dbD l (a, s)).tdiv 2 := by
    rw [Int.tdiv_eq_ediv_of_nonneg (by omega)]
    exact wrap64 (by omega) (by omega)
  have w2 : dbD l (a, s) + 1 ≤ 200 := by omega
  have n20 : ¬ (2 : Int) = 0 := by decide
  refine is.goX hm hΓ k_doubt7 (1000000 :: o_doubt7) (by simp [a_doubt7]) (by simp) ?_
  by_cases z0 : dbQ l (a, s) = 0
  · have hR : dbR l (a, s) = ((dbN l (a, s), amV l [0, 11, -1] (dbC4 l (a, s))), pkC l 3 (dbC4 l (a, s))) := by simp only [dbR, z0, if_true]
    have z0' : (dbQ l (a, s) == 0) = true := by simp [z0]
    rw [hR]
    simp only [a_doubt7, h_among, c_among, h_pick, c_pick, hv, h0, h1', q1, q1', q2, q2', q3, q3', q4, q4', e0, e1, e2, e3, e4, e5, e6, w0, w1, w2, n20, z0', (by decide : (40 : Int) ≤ 200), isI, ofI, cuEta, Int.cast_ofNat_Int, List.zipIdx_cons, List.zipIdx_nil, ↓SP, SQ, Gam.add, stepM, callC, argC, lendO, nmBy, nmC, likeL, likeB, plainOb, offs, exL, X, F, trP, trO, stepD, stepW, newA, SV.tr, SV.trL, fz, allP, Ob.tr, loadA, cellsA, SV.cells, binA, binI, eqOut, isSl, isPt, natOf, callee, snap, SV.refsL, SV.refs, thaw, fzAll, loA, hiA, elemOf, partsA, buildA, putCells, ↓reduceIte, reduceCtorEq, okCell, Nat.reduceAdd, Nat.reduceEqDiff, Nat.reduceSub, Nat.reduceMul, Nat.reduceLeDiff, Nat.reduceLT, Nat.reduceBEq, PV.scal, PV.scalL, SV.scal, SV.scalL, Ob.scal, PV.isCell, pure', resO]
    refine finA_gen [] trivial (by simp [retA, rvA, mkE_cons, mk_nil, mkO_cons, mkO_nil, loadA, SV.tr, SV.trL, nmF, rn_nil, rn_cons1, rn_cons2, plainOb, SV.refsL, SV.refs, Ob.refs, X, F, List.range_succ, mkO, setO_mk]; rfl) ?_ ?_ ?_ ?_ ?_ ?_ ?_ <;> simp [retA, rvA, mkE_cons, mk_nil, mkO_cons, mkO_nil, loadA, SV.tr, SV.trL, nmF, rn_nil, rn_cons1, rn_cons2, plainOb, SV.refsL, SV.refs, Ob.refs, X, F, List.range_succ, mkO, setO_mk]
  · have z0' : (dbQ l (a, s) == 0) = false := by simp [z0]
    by_cases z1 : dbQ l (a, s) = 1
    · have hR : dbR l (a, s) = ((amV l [-1, dbD l (a, s) + 1] (dbC4 l (a, s)), dbD l (a, s)), pkC l 2 (dbC4 l (a, s))) := by simp only [dbR, z0, z1, if_true, if_false]; simp
      have z1' : (dbQ l (a, s) == 1) = true := by simp [z1]
      rw [hR]
      simp only [a_doubt7, h_among, c_among, h_pick, c_pick, hv, h0, h1', q1, q1', q2, q2', q3, q3', q4, q4', e0, e1, e2, e3, e4, e5, e6, w0, w1, w2, n20, z0', z1', (by decide : (40 : Int) ≤ 200), isI, ofI, cuEta, Int.cast_ofNat_Int, List.zipIdx_cons, List.zipIdx_nil, ↓SP, SQ, Gam.add, stepM, callC, argC, lendO, nmBy, nmC, likeL, likeB, plainOb, offs, exL, X, F, trP, trO, stepD, stepW, newA, SV.tr, SV.trL, fz, allP, Ob.tr, loadA, cellsA, SV.cells, binA, binI, eqOut, isSl, isPt, natOf, callee, snap, SV.refsL, SV.refs, thaw, fzAll, loA, hiA, elemOf, partsA, buildA, putCells, ↓reduceIte, reduceCtorEq, okCell, Nat.reduceAdd, Nat.reduceEqDiff, Nat.reduceSub, Nat.reduceMul, Nat.reduceLeDiff, Nat.reduceLT, Nat.reduceBEq, PV.scal, PV.scalL, SV.scal, SV.scalL, Ob.scal, PV.isCell, pure', resO]
      refine finA_gen [] trivial (by simp [retA, rvA, mkE_cons, mk_nil, mkO_cons, mkO_nil, loadA, SV.tr, SV.trL, nmF, rn_nil, rn_cons1, rn_cons2, plainOb, SV.refsL, SV.refs, Ob.refs, X, F, List.range_succ, mkO, setO_mk]; rfl) ?_ ?_ ?_ ?_ ?_ ?_ ?_ <;> simp [retA, rvA, mkE_cons, mk_nil, mkO_cons, mkO_nil, loadA, SV.tr, SV.trL, nmF, rn_nil, rn_cons1, rn_cons2, plainOb, SV.refsL, SV.refs, Ob.refs, X, F, List.range_succ, mkO, setO_mk]
    · have hR : dbR l (a, s) = ((dbN l (a, s), dbD l (a, s)), dbC4 l (a, s)) := by simp only [dbR, z0, z1, if_false]
      have z1' : (dbQ l (a, s) == 1) = false := by simp [z1]
      rw [hR]
      simp only [a_doubt7, h_among, c_among, h_pick, c_pick, hv, h0, h1', q1, q1', q2, q2', q3, q3', q4, q4', e0, e1, e2, e3, e4, e5, e6, w0, w1, w2, n20, z0', z1', (by decide : (40 : Int) ≤ 200), isI, ofI, cuEta, Int.cast_ofNat_Int, List.zipIdx_cons, List.zipIdx_nil, ↓SP, SQ, Gam.add, stepM, callC, argC, lendO, nmBy, nmC, likeL, likeB, plainOb, offs, exL, X, F, trP, trO, stepD, stepW, newA, SV.tr, SV.trL, fz, allP, Ob.tr, loadA, cellsA, SV.cells, binA, binI, eqOut, isSl, isPt, natOf, callee, snap, SV.refsL, SV.refs, thaw, fzAll, loA, hiA, elemOf, partsA, buildA, putCells, ↓reduceIte, reduceCtorEq, okCell, Nat.reduceAdd, Nat.reduceEqDiff, Nat.reduceSub, Nat.reduceMul, Nat.reduceLeDiff, Nat.reduceLT, Nat.reduceBEq, PV.scal, PV.scalL, SV.scal, SV.scalL, Ob.scal, PV.isCell, pure', resO]
      refine finA_gen [] trivial (by simp [retA, rvA, mkE_cons, mk_nil, mkO_cons, mkO_nil, loadA, SV.tr, SV.trL, nmF, rn_nil, rn_cons1, rn_cons2, plainOb, SV.refsL, SV.refs, Ob.refs, X, F, List.range_succ, mkO, setO_mk]; rfl) ?_ ?_ ?_ ?_ ?_ ?_ ?_ <;> simp [retA, rvA, mkE_cons, mk_nil, mkO_cons, mkO_nil, loadA, SV.tr, SV.trL, nmF, rn_nil, rn_cons1, rn_cons2, plainOb, SV.refsL, SV.refs, Ob.refs, X, F, List.range_succ, mkO, setO_mk]
/-- Of the first i words, those that are near enough. -/
def fitI (w : List Int) (v q : Int) (i : Nat) : List Int := ((List.range i).filter fun j => decide ((pcN 14 ((w.getD j 0).toNat ^^^ v.toNat) : Int) ≤ q)).map fun j : Nat => (j : Int)
theorem fitI_yes {w : List Int} {v q : Int} {i : Nat} (h : (pcN 14 ((w.getD i 0).toNat ^^^ v.toNat) : Int) ≤ q) : fitI w v q i ++ [(i : Int)] = fitI w v q (i + 1) := by
  simp only [fitI, List.range_succ, List.filter_append, List.filter_cons, dec_t h, List.filter_nil, if_true, List.map_append, List.map_cons, List.map_nil]
theorem fitI_no {w : List Int} {v q : Int} {i : Nat} (h : ¬ (pcN 14 ((w.getD i 0).toNat ^^^ v.toNat) : Int) ≤ q) : fitI w v q (i + 1) = fitI w v q i := by
  simp only [fitI, List.range_succ, List.filter_append, List.filter_cons, dec_f h, List.filter_nil, Bool.false_eq_true, if_false, List.append_nil]
theorem fitI_len (w : List Int) (v q : Int) (i : Nat) : (fitI w v q i).length ≤ i := by
  simp only [fitI, List.length_map]
  exact Nat.le_trans (List.length_filter_le _ _) (by simp)
def a_l5Fit (f_l5Apart : FuncId) : AFn := ⟨3, 
  .seq (.reg [⟨some 6, none, .d (.mv (.c (.nilsl)))⟩])
  (.seq (.reg [⟨some 9, none, .w (.bslice 1 [] [])⟩,
    ⟨some 7, none, .d (.mv (.t 9))⟩])
  (.seq (.seq (.reg [⟨some 8, none, .d (.mv (.c (.int .i64 0)))⟩])
  (.block 0 (.loop (.seq (.seq (.reg [⟨some 10, none, .d (.mv (.t 8))⟩,
      ⟨some 11, none, .d (.mv (.t 0))⟩,
      ⟨some 12, none, .d (.len (.t 11))⟩,
      ⟨some 13, none, .d (.bin .arith .lss (.t 10) (.t 12))⟩])
    (.cond (.t 13) (.skip) (.exit 0)))
    (.seq (.block 1 (.seq (.reg [⟨some 16, none, .d (.mv (.t 0))⟩,
       ⟨some 17, none, .d (.mv (.t 8))⟩,
       ⟨some 18, none, .d (.ia 1 (.t 16) (.t 17))⟩,
       ⟨some 19, none, .d (.load false 1 (.t 18))⟩,
       ⟨some 20, none, .d (.mv (.t 1))⟩,
       ⟨some 21, none, .d (.call (.f f_l5Apart) [(.t 19), (.t 20)])⟩,
       ⟨some 22, none, .d (.mv (.t 2))⟩,
       ⟨some 23, none, .d (.bin .arith .leq (.t 21) (.t 22))⟩])
     (.cond (.t 23) (.reg [⟨some 24, none, .d (.mv (.t 7))⟩,
        ⟨some 25, none, .d (.mv (.t 8))⟩,
        ⟨some 26, none, .w (.bslice 1 [.int .i64 0] [(0, (.t 25))])⟩,
        ⟨some 27, none, .w (.append 1 (.t 24) (.t 26))⟩,
        ⟨some 7, none, .d (.mv (.t 27))⟩]) (.skip))))
    (.reg [⟨some 14, none, .d (.mv (.t 8))⟩,
      ⟨some 15, none, .d (.bin .arith .add (.t 14) (.c (.int .i64 1)))⟩,
      ⟨some 8, none, .d (.mv (.t 15))⟩]))))))
  (.seq (.reg [⟨some 28, none, .d (.mv (.t 7))⟩,
    ⟨some 6, none, .d (.mv (.t 28))⟩])
  (.ret)))), [.tmp 6]⟩
def n_l5Fit : Nat → Option Ann := fun _ => none
abbrev k_l5Fit : List Nat := [0, 1, 2, 6, 7, 8, 13, 23]
abbrev o_l5Fit : List Nat := [9, 26, 27]
def c_l5Fit : Con := pure' fun
  | [.p (.sl 1 w_), .p (.int .i64 v), .p (.int .i64 q)] => if isI w_ = true ∧ ((ofI w_).length ≤ 4096 ∧ fitW (ofI w_) ∧ 0 ≤ v ∧ v < 16384) then some (.ar 2000000, [.arr 1 (ints (fitI (ofI w_) v q (ofI w_).length))]) else none
  | _ => none
theorem s_l5Fit {P : Program} (hm : P.follows .mixedOrders = true) {Γ : Gam} (hΓ : GS P Γ) {n : FuncId} {f_l5Apart : FuncId} (is : Is P n (a_l5Fit f_l5Apart)) (h_l5Apart : Γ f_l5Apart = c_l5Apart)  : Says P n c_l5Fit := by
  refine Says.pure fun args r fs h => ?_
  split at h
  case h_2 => cases h
  rename_i w_ v q
  split at h
  case isFalse => cases h
  rename_i hc
  obtain ⟨hw_, hc⟩ := hc
  obtain ⟨w, rfl⟩ := isI_out hw_
  simp only [ofI_ints, ofBo_bools, ofAs_asks, Option.some.injEq, Prod.mk.injEq] at h hc
  obtain ⟨rfl, rfl⟩ := h
  obtain ⟨h0, hf, h1, h2⟩ := hc
  refine is.go hm hΓ k_l5Fit o_l5Fit (by simp [a_l5Fit]) ?_
  simp only [a_l5Fit, h_l5Apart, c_l5Apart, List.zipIdx_cons, List.zipIdx_nil, ↓SP, SQ, Gam.add, stepM, callC, argC, lendO, nmBy, nmC, likeL, likeB, plainOb, offs, exL, X, F, trP, trO, stepD, stepW, newA, SV.tr, SV.trL, fz, allP, Ob.tr, loadA, cellsA, SV.cells, binA, binI, eqOut, isSl, isPt, natOf, callee, snap, SV.refsL, SV.refs, thaw, fzAll, loA, hiA, elemOf, partsA, buildA, putCells, ↓reduceIte, reduceCtorEq, okCell, Nat.reduceAdd, Nat.reduceEqDiff, Nat.reduceSub, Nat.reduceMul, Nat.reduceLeDiff, Nat.reduceLT, Nat.reduceBEq, PV.scal, PV.scalL, SV.scal, SV.scalL, Ob.scal, PV.isCell, pure', resO]
  refine loop_at (fun s : Nat × Option Ob × SV × SV => mkEnv [(0, .p (.sl 1 (ints w))), (1, si v), (2, si q), (6, .p .nilsl), (7, .ar 9), (8, si s.1), (13, s.2.2.1), (23, s.2.2.2)]) (fun s => mkO [(9, some (.arr 1 (ints (fitI w v q s.1)))), (26, s.2.1), (27, none)]) (fun s => s.1 ≤ w.length) (fun s => w.length - s.1) (0, none, .junk, .junk) (by simp) rfl rfl ?_
  rintro ⟨i, ob, c1, c2⟩ hi R hR hN
  simp only at hi
  by_cases h : i < w.length
  · have hi1 : (i : Int) < w.length := by omega
    have hw := wrap_one (i := i) (by omega)
    have hg := ints_get h
    have hl := fitI_len w v q i
    have hr : (fitI w v q i).length + 1 ≤ roomA := by unfold roomA; omega
    have hfg := fitW_get hf h
    by_cases hx : (pcN 14 ((w.getD i 0).toNat ^^^ v.toNat) : Int) ≤ q
    · have ho := fitI_yes hx
      simp only [hi1, hw, hg, hr, h, hx, hfg, h1, h2, h_l5Apart, c_l5Apart, ints_len, ints_app1, ho, ints_cell, ↓SP, SQ, Gam.add, stepM, callC, argC, lendO, nmBy, nmC, likeL, likeB, plainOb, offs, exL, X, F, trP, trO, stepD, stepW, newA, SV.tr, SV.trL, fz, allP, Ob.tr, loadA, cellsA, SV.cells, binA, binI, eqOut, isSl, isPt, natOf, callee, snap, SV.refsL, SV.refs, thaw, fzAll, loA, hiA, elemOf, partsA, buildA, putCells, ↓reduceIte, reduceCtorEq, okCell, Nat.reduceAdd, Nat.reduceEqDiff, Nat.reduceSub, Nat.reduceMul, Nat.reduceLeDiff, Nat.reduceLT, Nat.reduceBEq, PV.scal, PV.scalL, SV.scal, SV.scalL, Ob.scal, PV.isCell, pure', resO]
      exact hN (i + 1, _, _, _) _ _ (by simp only; omega) (by simp only; omega) rfl rfl
    · have ho := fitI_no hx
      simp only [hi1, hw, hg, h, hx, hfg, h1, h2, h_l5Apart, c_l5Apart, ints_len, ↓SP, SQ, Gam.add, stepM, callC, argC, lendO, nmBy, nmC, likeL, likeB, plainOb, offs, exL, X, F, trP, trO, stepD, stepW, newA, SV.tr, SV.trL, fz, allP, Ob.tr, loadA, cellsA, SV.cells, binA, binI, eqOut, isSl, isPt, natOf, callee, snap, SV.refsL, SV.refs, thaw, fzAll, loA, hiA, elemOf, partsA, buildA, putCells, ↓reduceIte, reduceCtorEq, okCell, Nat.reduceAdd, Nat.reduceEqDiff, Nat.reduceSub, Nat.reduceMul, Nat.reduceLeDiff, Nat.reduceLT, Nat.reduceBEq, PV.scal, PV.scalL, SV.scal, SV.scalL, Ob.scal, PV.isCell, pure', resO]
      exact hN (i + 1, _, _, _) _ _ (by simp only; omega) (by simp only; omega) rfl (by rw [ho])
  · have he : i = w.length := by omega
    have hi1 : ¬ (i : Int) < w.length := by omega
    simp only [hi1, ints_len, ↓SP, SQ, Gam.add, stepM, callC, argC, lendO, nmBy, nmC, likeL, likeB, plainOb, offs, exL, X, F, trP, trO, stepD, stepW, newA, SV.tr, SV.trL, fz, allP, Ob.tr, loadA, cellsA, SV.cells, binA, binI, eqOut, isSl, isPt, natOf, callee, snap, SV.refsL, SV.refs, thaw, fzAll, loA, hiA, elemOf, partsA, buildA, putCells, ↓reduceIte, reduceCtorEq, okCell, Nat.reduceAdd, Nat.reduceEqDiff, Nat.reduceSub, Nat.reduceMul, Nat.reduceLeDiff, Nat.reduceLT, Nat.reduceBEq, PV.scal, PV.scalL, SV.scal, SV.scalL, Ob.scal, PV.isCell, pure', resO]
    refine hR _ _ _ (by intro h; cases h) ?_
    simp only [↓SP, SQ, Gam.add, stepM, callC, argC, lendO, nmBy, nmC, likeL, likeB, plainOb, offs, exL, X, F, trP, trO, stepD, stepW, newA, SV.tr, SV.trL, fz, allP, Ob.tr, loadA, cellsA, SV.cells, binA, binI, eqOut, isSl, isPt, natOf, callee, snap, SV.refsL, SV.refs, thaw, fzAll, loA, hiA, elemOf, partsA, buildA, putCells, ↓reduceIte, reduceCtorEq, okCell, Nat.reduceAdd, Nat.reduceEqDiff, Nat.reduceSub, Nat.reduceMul, Nat.reduceLeDiff, Nat.reduceLT, Nat.reduceBEq, PV.scal, PV.scalL, SV.scal, SV.scalL, Ob.scal, PV.isCell, pure', resO]
    subst he
    refine finA_gen [9] trivial (by simp [retA, rvA, mkE_cons, mk_nil, mkO_cons, mkO_nil, loadA, SV.tr, SV.trL, nmF, rn_nil, rn_cons1, rn_cons2, plainOb, SV.refsL, SV.refs, Ob.refs, X, F, List.range_succ, mkO, setO_mk]; rfl) ?_ ?_ ?_ ?_ ?_ ?_ ?_ <;> simp [retA, rvA, mkE_cons, mk_nil, mkO_cons, mkO_nil, loadA, SV.tr, SV.trL, nmF, rn_nil, rn_cons1, rn_cons2, plainOb, SV.refsL, SV.refs, Ob.refs, X, F, List.range_succ, mkO, setO_mk]
/-- The words that are taken, of the first i + 1. -/
def grW (n m : Int) : Nat → List Int
  | 0 => [0]
  | i + 1 => if (((grW n m i).length : Nat) : Int) < n ∧ (fitI (grW n m i) ((i + 1 : Nat) : Int) (2 * m) (grW n m i).length).length = 0 then grW n m i ++ [((i + 1 : Nat) : Int)] else grW n m i
theorem grW_len (n m : Int) : ∀ i, (grW n m i).length ≤ i + 1
  | 0 => Nat.le_refl _
  | i + 1 => by
    have := grW_len n m i
    rw [grW]; split
    · rw [List.length_append]; simp; omega
    · omega
theorem grW_len2 (n m : Int) (hn : 1 ≤ n) : ∀ i, ((grW n m i).length : Int) ≤ n
  | 0 => by simp only [grW, List.length_cons, List.length_nil]; omega
  | i + 1 => by
    have := grW_len2 n m hn i
    rw [grW]; split
    · rename_i h
      have := h.1
      rw [List.length_append]; simp only [List.length_cons, List.length_nil]; omega
    · exact this
theorem grW_le (n m : Int) : ∀ i, ∀ x ∈ grW n m i, 0 ≤ x ∧ x ≤ (i : Int)
  | 0, x, h => by simp [grW] at h; subst h; omega
  | i + 1, x, h => by
    rw [grW] at h
    split at h
    · rcases List.mem_append.1 h with h | h
      · have := grW_le n m i x h; omega
      · simp at h; subst h; omega
    · have := grW_le n m i x h; omega
theorem grW_stop {n m : Int} {i : Nat} (h : ¬ ((grW n m i).length : Int) < n) : ∀ j, grW n m (i + j) = grW n m i
  | 0 => rfl
  | j + 1 => by
    have e := grW_stop h j
    rw [← Nat.add_assoc, grW, e, if_neg (fun x => h x.1)]
def a_l5Greedy (f_l5Fit : FuncId) : AFn := ⟨3, 
  .seq (.reg [⟨some 6, none, .d (.mv (.c (.nilsl)))⟩])
  (.seq (.reg [⟨some 9, none, .w (.bslice 1 [.int .i64 0] [(0, (.c (.int .i64 0)))])⟩,
    ⟨some 7, none, .d (.mv (.t 9))⟩])
  (.seq (.seq (.reg [⟨some 8, none, .d (.mv (.c (.int .i64 1)))⟩])
  (.block 0 (.loop (.seq (.seq (.reg [⟨some 10, none, .d (.mv (.t 8))⟩,
      ⟨some 11, none, .d (.mv (.t 2))⟩,
      ⟨some 12, none, .d (.bin .arith .shl (.c (.int .i64 1)) (.t 11))⟩,
      ⟨some 13, none, .d (.bin .arith .lss (.t 10) (.t 12))⟩,
      ⟨some 14, none, .d (.mv (.t 13))⟩,
      ⟨some 15, some (14, true), .d (.mv (.t 7))⟩,
      ⟨some 16, some (14, true), .d (.len (.t 15))⟩,
      ⟨some 17, some (14, true), .d (.mv (.t 0))⟩,
      ⟨some 18, some (14, true), .d (.bin .arith .lss (.t 16) (.t 17))⟩,
      ⟨some 19, none, .d (.pick (.t 14) (.t 18) (.c (.bool false)))⟩])
    (.cond (.t 19) (.skip) (.exit 0)))
    (.seq (.block 1 (.seq (.reg [⟨some 22, none, .d (.mv (.t 7))⟩,
       ⟨some 23, none, .d (.mv (.t 8))⟩,
       ⟨some 24, none, .d (.mv (.t 1))⟩,
       ⟨some 25, none, .d (.bin .arith .mul (.c (.int .i64 2)) (.t 24))⟩,
       ⟨some 26, none, .d (.call (.f f_l5Fit) [(.t 22), (.t 23), (.t 25)])⟩,
       ⟨some 27, none, .d (.len (.t 26))⟩,
       ⟨some 28, none, .d (.bin .arith .eql (.t 27) (.c (.int .i64 0)))⟩])
     (.cond (.t 28) (.reg [⟨some 29, none, .d (.mv (.t 7))⟩,
        ⟨some 30, none, .d (.mv (.t 8))⟩,
        ⟨some 31, none, .w (.bslice 1 [.int .i64 0] [(0, (.t 30))])⟩,
        ⟨some 32, none, .w (.append 1 (.t 29) (.t 31))⟩,
        ⟨some 7, none, .d (.mv (.t 32))⟩]) (.skip))))
    (.reg [⟨some 20, none, .d (.mv (.t 8))⟩,
      ⟨some 21, none, .d (.bin .arith .add (.t 20) (.c (.int .i64 1)))⟩,
      ⟨some 8, none, .d (.mv (.t 21))⟩]))))))
  (.seq (.reg [⟨some 33, none, .d (.mv (.t 7))⟩,
    ⟨some 6, none, .d (.mv (.t 33))⟩])
  (.ret)))), [.tmp 6]⟩
def n_l5Greedy : Nat → Option Ann := fun _ => none
abbrev k_l5Greedy : List Nat := [0, 1, 2, 6, 7, 8, 19, 28]
abbrev o_l5Greedy : List Nat := [9, 31, 32]
def c_l5Greedy : Con := pure' fun
  | [.p (.int .i64 n), .p (.int .i64 m), .p (.int .i64 q)] => if (1 ≤ n ∧ n ≤ 12 ∧ 0 ≤ m ∧ m ≤ 2 ∧ 0 ≤ q ∧ q ≤ 14) then some (.ar 2000000, [.arr 1 (ints (grW n m (2 ^ q.toNat - 1)))]) else none
  | _ => none
theorem s_l5Greedy {P : Program} (hm : P.follows .mixedOrders = true) {Γ : Gam} (hΓ : GS P Γ) {n : FuncId} {f_l5Fit : FuncId} (is : Is P n (a_l5Greedy f_l5Fit)) (h_l5Fit : Γ f_l5Fit = c_l5Fit)  : Says P n c_l5Greedy := by
  refine Says.pure fun args r fs h => ?_
  split at h
  case h_2 => cases h
  rename_i n m q
  split at h
  case isFalse => cases h
  rename_i hc
  simp only [ofI_ints, ofBo_bools, ofAs_asks, Option.some.injEq, Prod.mk.injEq] at h hc
  obtain ⟨rfl, rfl⟩ := h
  obtain ⟨n1, n2, m1, m2, q1, q2⟩ := hc
  obtain ⟨q, rfl⟩ : ∃ j : Nat, q = j := ⟨q.toNat, by omega⟩
  simp only [Int.toNat_natCast]
  have hsh := (shl_nat (i := q) (by omega)).1
  have hp := pow14 (i := q) (by omega)
  have hpp : 0 < 2 ^ q := Nat.pow_pos (by omega)
  have hn0 : ¬ (q : Int) < 0 := by omega
  have hw2 : IntKind.i64.wrap (2 * m) = 2 * m := wrap64 (by omega) (by omega)
  refine is.go hm hΓ k_l5Greedy o_l5Greedy (by simp [a_l5Greedy]) ?_
  simp only [a_l5Greedy, h_l5Fit, c_l5Fit, List.zipIdx_cons, List.zipIdx_nil, ↓SP, SQ, Gam.add, stepM, callC, argC, lendO, nmBy, nmC, likeL, likeB, plainOb, offs, exL, X, F, trP, trO, stepD, stepW, newA, SV.tr, SV.trL, fz, allP, Ob.tr, loadA, cellsA, SV.cells, binA, binI, eqOut, isSl, isPt, natOf, callee, snap, SV.refsL, SV.refs, thaw, fzAll, loA, hiA, elemOf, partsA, buildA, putCells, ↓reduceIte, reduceCtorEq, okCell, Nat.reduceAdd, Nat.reduceEqDiff, Nat.reduceSub, Nat.reduceMul, Nat.reduceLeDiff, Nat.reduceLT, Nat.reduceBEq, PV.scal, PV.scalL, SV.scal, SV.scalL, Ob.scal, PV.isCell, pure', resO]
  refine loop_at (fun s : Nat × Option Ob × SV × SV => mkEnv [(0, si n), (1, si m), (2, si q), (6, .p .nilsl), (7, .ar 9), (8, si ((s.1 + 1 : Nat) : Int)), (19, s.2.2.1), (28, s.2.2.2)]) (fun s => mkO [(9, some (.arr 1 (ints (grW n m s.1)))), (31, s.2.1), (32, none)]) (fun s => s.1 + 1 ≤ 2 ^ q) (fun s => 2 ^ q - s.1) (0, none, .junk, .junk) (by simp only; omega) rfl rfl ?_
  rintro ⟨i, ob, c1, c2⟩ hi R hR hN
  simp only at hi
  have hl2 := grW_len2 n m n1 i
  have hl := grW_len n m i
  by_cases h : i + 1 < 2 ^ q
  · have h1 : ((i + 1 : Nat) : Int) < ((2 ^ q : Nat) : Int) := Int.ofNat_lt.2 h
    by_cases hg : ((grW n m i).length : Int) < n
    · have hw := wrap_one (i := i + 1) (by omega)
      have hll : (grW n m i).length ≤ 4096 := by omega
      have hf : fitW (grW n m i) := fun x hx => by have := grW_le n m i x hx; omega
      have hv0 : (0 : Int) ≤ ((i + 1 : Nat) : Int) := by omega
      have hv1 : ((i + 1 : Nat) : Int) < 16384 := by omega
      have hr : (grW n m i).length + 1 ≤ roomA := by unfold roomA; omega
      by_cases hz : (fitI (grW n m i) ((i + 1 : Nat) : Int) (2 * m) (grW n m i).length).length = 0
      · have hz' : (((fitI (grW n m i) ((i + 1 : Nat) : Int) (2 * m) (grW n m i).length).length : Int) == 0) = true := beq_iff_eq.2 (by omega)
        have he : grW n m i ++ [((i + 1 : Nat) : Int)] = grW n m (i + 1) := by rw [grW, if_pos ⟨hg, hz⟩]
        simp only [hsh, hn0, h1, hg, hw, hw2, hll, hf, hv0, hv1, hr, hz', h_l5Fit, c_l5Fit, isI_ints, ofI_ints, ints_len, ints_app1, he, ints_cell, ↓SP, SQ, Gam.add, stepM, callC, argC, lendO, nmBy, nmC, likeL, likeB, plainOb, offs, exL, X, F, trP, trO, stepD, stepW, newA, SV.tr, SV.trL, fz, allP, Ob.tr, loadA, cellsA, SV.cells, binA, binI, eqOut, isSl, isPt, natOf, callee, snap, SV.refsL, SV.refs, thaw, fzAll, loA, hiA, elemOf, partsA, buildA, putCells, ↓reduceIte, reduceCtorEq, okCell, Nat.reduceAdd, Nat.reduceEqDiff, Nat.reduceSub, Nat.reduceMul, Nat.reduceLeDiff, Nat.reduceLT, Nat.reduceBEq, PV.scal, PV.scalL, SV.scal, SV.scalL, Ob.scal, PV.isCell, pure', resO]
        exact hN (i + 1, _, _, _) _ _ (by simp only; omega) (by simp only; omega) rfl rfl
      · have hz' : (((fitI (grW n m i) ((i + 1 : Nat) : Int) (2 * m) (grW n m i).length).length : Int) == 0) = false := beq_eq_false_iff_ne.2 (by omega)
        have he : grW n m (i + 1) = grW n m i := by rw [grW, if_neg (fun x => hz x.2)]
        simp only [hsh, hn0, h1, hg, hw, hw2, hll, hf, hv0, hv1, hr, hz', h_l5Fit, c_l5Fit, isI_ints, ofI_ints, ints_len, ↓SP, SQ, Gam.add, stepM, callC, argC, lendO, nmBy, nmC, likeL, likeB, plainOb, offs, exL, X, F, trP, trO, stepD, stepW, newA, SV.tr, SV.trL, fz, allP, Ob.tr, loadA, cellsA, SV.cells, binA, binI, eqOut, isSl, isPt, natOf, callee, snap, SV.refsL, SV.refs, thaw, fzAll, loA, hiA, elemOf, partsA, buildA, putCells, ↓reduceIte, reduceCtorEq, okCell, Nat.reduceAdd, Nat.reduceEqDiff, Nat.reduceSub, Nat.reduceMul, Nat.reduceLeDiff, Nat.reduceLT, Nat.reduceBEq, PV.scal, PV.scalL, SV.scal, SV.scalL, Ob.scal, PV.isCell, pure', resO]
        exact hN (i + 1, _, _, _) _ _ (by simp only; omega) (by simp only; omega) rfl (by rw [he])
    · have he : grW n m i = grW n m (2 ^ q - 1) := by
        rw [show 2 ^ q - 1 = i + (2 ^ q - 1 - i) by omega, grW_stop hg]
      simp only [hsh, hn0, h1, hg, ints_len, ↓SP, SQ, Gam.add, stepM, callC, argC, lendO, nmBy, nmC, likeL, likeB, plainOb, offs, exL, X, F, trP, trO, stepD, stepW, newA, SV.tr, SV.trL, fz, allP, Ob.tr, loadA, cellsA, SV.cells, binA, binI, eqOut, isSl, isPt, natOf, callee, snap, SV.refsL, SV.refs, thaw, fzAll, loA, hiA, elemOf, partsA, buildA, putCells, ↓reduceIte, reduceCtorEq, okCell, Nat.reduceAdd, Nat.reduceEqDiff, Nat.reduceSub, Nat.reduceMul, Nat.reduceLeDiff, Nat.reduceLT, Nat.reduceBEq, PV.scal, PV.scalL, SV.scal, SV.scalL, Ob.scal, PV.isCell, pure', resO]
      refine hR _ _ _ (by intro h; cases h) ?_
      simp only [↓SP, SQ, Gam.add, stepM, callC, argC, lendO, nmBy, nmC, likeL, likeB, plainOb, offs, exL, X, F, trP, trO, stepD, stepW, newA, SV.tr, SV.trL, fz, allP, Ob.tr, loadA, cellsA, SV.cells, binA, binI, eqOut, isSl, isPt, natOf, callee, snap, SV.refsL, SV.refs, thaw, fzAll, loA, hiA, elemOf, partsA, buildA, putCells, ↓reduceIte, reduceCtorEq, okCell, Nat.reduceAdd, Nat.reduceEqDiff, Nat.reduceSub, Nat.reduceMul, Nat.reduceLeDiff, Nat.reduceLT, Nat.reduceBEq, PV.scal, PV.scalL, SV.scal, SV.scalL, Ob.scal, PV.isCell, pure', resO]
      refine finA_gen [9] trivial (by simp [retA, rvA, mkE_cons, mk_nil, mkO_cons, mkO_nil, loadA, SV.tr, SV.trL, nmF, rn_nil, rn_cons1, rn_cons2, plainOb, SV.refsL, SV.refs, Ob.refs, X, F, List.range_succ, mkO, setO_mk]; rfl) ?_ ?_ ?_ ?_ ?_ ?_ ?_ <;> simp [he, retA, rvA, mkE_cons, mk_nil, mkO_cons, mkO_nil, loadA, SV.tr, SV.trL, nmF, rn_nil, rn_cons1, rn_cons2, plainOb, SV.refsL, SV.refs, Ob.refs, X, F, List.range_succ, mkO, setO_mk]
  · have he : i = 2 ^ q - 1 := by omega
    have h1 : ¬ ((i + 1 : Nat) : Int) < ((2 ^ q : Nat) : Int) := by omega
    simp only [hsh, hn0, h1, ↓SP, SQ, Gam.add, stepM, callC, argC, lendO, nmBy, nmC, likeL, likeB, plainOb, offs, exL, X, F, trP, trO, stepD, stepW, newA, SV.tr, SV.trL, fz, allP, Ob.tr, loadA, cellsA, SV.cells, binA, binI, eqOut, isSl, isPt, natOf, callee, snap, SV.refsL, SV.refs, thaw, fzAll, loA, hiA, elemOf, partsA, buildA, putCells, ↓reduceIte, reduceCtorEq, okCell, Nat.reduceAdd, Nat.reduceEqDiff, Nat.reduceSub, Nat.reduceMul, Nat.reduceLeDiff, Nat.reduceLT, Nat.reduceBEq, PV.scal, PV.scalL, SV.scal, SV.scalL, Ob.scal, PV.isCell, pure', resO]
    refine hR _ _ _ (by intro h; cases h) ?_
    simp only [↓SP, SQ, Gam.add, stepM, callC, argC, lendO, nmBy, nmC, likeL, likeB, plainOb, offs, exL, X, F, trP, trO, stepD, stepW, newA, SV.tr, SV.trL, fz, allP, Ob.tr, loadA, cellsA, SV.cells, binA, binI, eqOut, isSl, isPt, natOf, callee, snap, SV.refsL, SV.refs, thaw, fzAll, loA, hiA, elemOf, partsA, buildA, putCells, ↓reduceIte, reduceCtorEq, okCell, Nat.reduceAdd, Nat.reduceEqDiff, Nat.reduceSub, Nat.reduceMul, Nat.reduceLeDiff, Nat.reduceLT, Nat.reduceBEq, PV.scal, PV.scalL, SV.scal, SV.scalL, Ob.scal, PV.isCell, pure', resO]
    refine finA_gen [9] trivial (by simp [retA, rvA, mkE_cons, mk_nil, mkO_cons, mkO_nil, loadA, SV.tr, SV.trL, nmF, rn_nil, rn_cons1, rn_cons2, plainOb, SV.refsL, SV.refs, Ob.refs, X, F, List.range_succ, mkO, setO_mk]; rfl) ?_ ?_ ?_ ?_ ?_ ?_ ?_ <;> simp [he, retA, rvA, mkE_cons, mk_nil, mkO_cons, mkO_nil, loadA, SV.tr, SV.trL, nmF, rn_nil, rn_cons1, rn_cons2, plainOb, SV.refsL, SV.refs, Ob.refs, X, F, List.range_succ, mkO, setO_mk]
def a_l5Of : AFn := ⟨2, 
  .seq (.reg [⟨some 4, none, .d (.mv (.c (.nilsl)))⟩])
  (.seq (.reg [⟨some 8, none, .d (.mv (.t 1))⟩,
    ⟨some 9, none, .w (.mkslice 1 (.int .i64 0) (.t 8))⟩,
    ⟨some 5, none, .d (.mv (.t 9))⟩])
  (.seq (.seq (.reg [⟨some 6, none, .d (.mv (.c (.int .i64 0)))⟩])
  (.block 0 (.loop (.seq (.seq (.reg [⟨some 10, none, .d (.mv (.t 6))⟩,
      ⟨some 11, none, .d (.mv (.t 1))⟩,
      ⟨some 12, none, .d (.bin .arith .lss (.t 10) (.t 11))⟩])
    (.cond (.t 12) (.skip) (.exit 0)))
    (.seq (.block 1 (.seq (.reg [⟨some 7, none, .d (.mv (.c (.int .i64 0)))⟩])
     (.block 2 (.loop (.seq (.seq (.reg [⟨some 15, none, .d (.mv (.t 7))⟩,
         ⟨some 16, none, .d (.mv (.t 0))⟩,
         ⟨some 17, none, .d (.len (.t 16))⟩,
         ⟨some 18, none, .d (.bin .arith .lss (.t 15) (.t 17))⟩])
       (.cond (.t 18) (.skip) (.exit 2)))
       (.seq (.block 3 (.dreg [] [([], ⟨some 21, none, .d (.mv (.t 5))⟩),
          ([], ⟨some 22, none, .d (.mv (.t 6))⟩),
          ([], ⟨some 23, none, .d (.mv (.t 5))⟩),
          ([], ⟨some 24, none, .d (.mv (.t 6))⟩),
          ([], ⟨some 25, none, .d (.ia 1 (.t 23) (.t 24))⟩),
          ([], ⟨some 26, none, .d (.load false 1 (.t 25))⟩),
          ([], ⟨some 27, none, .d (.mv (.t 0))⟩),
          ([], ⟨some 28, none, .d (.mv (.t 7))⟩),
          ([], ⟨some 29, none, .d (.ia 1 (.t 27) (.t 28))⟩),
          ([], ⟨some 30, none, .d (.load false 1 (.t 29))⟩),
          ([], ⟨some 31, none, .d (.mv (.t 6))⟩),
          ([], ⟨some 32, none, .d (.bin .arith .shr (.t 30) (.t 31))⟩),
          ([], ⟨some 33, none, .d (.bin .arith .and (.t 32) (.c (.int .i64 1)))⟩),
          ([], ⟨some 34, none, .d (.mv (.t 7))⟩),
          ([], ⟨some 35, none, .d (.bin .arith .shl (.t 33) (.t 34))⟩),
          ([], ⟨some 36, none, .d (.bin .arith .or (.t 26) (.t 35))⟩)] [⟨some 37, none, .d (.ia 1 (.t 21) (.t 22))⟩,
          ⟨none, none, .w (.store 1 (.t 37) (.t 36))⟩]))
       (.reg [⟨some 19, none, .d (.mv (.t 7))⟩,
         ⟨some 20, none, .d (.bin .arith .add (.t 19) (.c (.int .i64 1)))⟩,
         ⟨some 7, none, .d (.mv (.t 20))⟩])))))))
    (.reg [⟨some 13, none, .d (.mv (.t 6))⟩,
      ⟨some 14, none, .d (.bin .arith .add (.t 13) (.c (.int .i64 1)))⟩,
      ⟨some 6, none, .d (.mv (.t 14))⟩]))))))
  (.seq (.reg [⟨some 38, none, .d (.mv (.t 5))⟩,
    ⟨some 4, none, .d (.mv (.t 38))⟩])
  (.ret)))), [.tmp 4]⟩
def n_l5Of : Nat → Option Ann := fun _ => none
abbrev k_l5Of : List Nat := [0, 1, 4, 5, 6, 7, 12, 18]
abbrev o_l5Of : List Nat := [9]
/-- One word of a scheme, from the first k numbers. -/
def ofI5 (w : List Int) (i : Nat) : Nat → Int
  | 0 => 0
  | k + 1 => orW .i64 (ofI5 w i k) (IntKind.i64.wrap (bitW (w.getD k 0) i * 2 ^ min k IntKind.i64.bits))
def of5 (w : List Int) (q i k : Nat) : List Int := (List.range q).map fun j => if j < i then ofI5 w j w.length else if j = i then ofI5 w j k else 0
def ofL5 (w : List Int) (q : Nat) : List Int := of5 w q q 0
theorem of5_len (w : List Int) (q i k : Nat) : (of5 w q i k).length = q := by simp [of5]
theorem ofL5_len (w : List Int) (q : Nat) : (ofL5 w q).length = q := of5_len w q q 0
theorem of5_get {w : List Int} {q i k : Nat} (h : i < q) : (of5 w q i k).getD i 0 = ofI5 w i k := by simp [of5, h]
theorem of5_set {w : List Int} {q i k : Nat} : (of5 w q i k).set i (ofI5 w i (k + 1)) = of5 w q i (k + 1) := by
  apply List.ext_getElem
  · simp [of5]
  · intro j h1 h2
    rw [List.getElem_set]
    simp only [of5, List.getElem_map, List.getElem_range]
    by_cases h : i = j
    · subst h; simp
    · simp only [h, if_false]
      by_cases h3 : j < i
      · simp only [h3, if_true]
      · simp only [h3, if_false, show ¬ j = i from fun e => h e.symm]
theorem of5_next {w : List Int} {q i : Nat} : of5 w q i w.length = of5 w q (i + 1) 0 := by
  apply List.ext_getElem
  · simp [of5]
  · intro j h1 h2
    simp only [of5, List.getElem_map, List.getElem_range]
    by_cases h3 : j < i
    · simp only [h3, show j < i + 1 by omega, if_true]
    · by_cases h4 : j = i
      · subst h4; simp
      · simp only [h3, h4, show ¬ j < i + 1 by omega, if_false]
        by_cases h5 : j = i + 1
        · simp only [h5, if_true, ofI5]
        · simp only [h5, if_false]
theorem of5_zero (w : List Int) (q : Nat) : of5 w q 0 0 = List.replicate q 0 := by
  apply List.ext_getElem
  · simp [of5]
  · intro j h1 h2
    simp only [of5, List.getElem_map, List.getElem_range, List.getElem_replicate, Nat.not_lt_zero, if_false]
    by_cases h : j = 0
    · simp only [h, if_true, ofI5]
    · simp only [h, if_false]
def c_l5Of : Con := pure' fun
  | [.p (.sl 1 w_), .p (.int .i64 q)] => if isI w_ = true ∧ ((ofI w_).length ≤ 4096 ∧ 0 ≤ q ∧ q ≤ 14) then some (.ar 2000000, [.arr 1 (ints (ofL5 (ofI w_) q.toNat))]) else none
  | _ => none
theorem s_l5Of {P : Program} (hm : P.follows .mixedOrders = true) {Γ : Gam} (hΓ : GS P Γ) {n : FuncId} (is : Is P n a_l5Of)  : Says P n c_l5Of := by
  refine Says.pure fun args r fs h => ?_
  split at h
  case h_2 => cases h
  rename_i w_ q
  split at h
  case isFalse => cases h
  rename_i hc
  obtain ⟨hw_, hc⟩ := hc
  obtain ⟨w, rfl⟩ := isI_out hw_
  simp only [ofI_ints, ofBo_bools, ofAs_asks, Option.some.injEq, Prod.mk.injEq] at h hc
  obtain ⟨rfl, rfl⟩ := h
  obtain ⟨h0, q1, q2⟩ := hc
  obtain ⟨q, rfl⟩ : ∃ j : Nat, q = j := ⟨q.toNat, by omega⟩
  simp only [Int.toNat_natCast]
  have hqr : q ≤ roomA := Nat.le_trans (by omega) (by decide : 14 ≤ roomA)
  have hz : List.replicate q (PV.int .i64 0) = ints (of5 w q 0 0) := by rw [of5_zero]; simp [ints]
  refine is.go hm hΓ k_l5Of o_l5Of (by simp [a_l5Of]) ?_
  simp only [a_l5Of, hqr, hz, List.zipIdx_cons, List.zipIdx_nil, ↓SP, SQ, Gam.add, stepM, callC, argC, lendO, nmBy, nmC, likeL, likeB, plainOb, offs, exL, X, F, trP, trO, stepD, stepW, newA, SV.tr, SV.trL, fz, allP, Ob.tr, loadA, cellsA, SV.cells, binA, binI, eqOut, isSl, isPt, natOf, callee, snap, SV.refsL, SV.refs, thaw, fzAll, loA, hiA, elemOf, partsA, buildA, putCells, ↓reduceIte, reduceCtorEq, okCell, Nat.reduceAdd, Nat.reduceEqDiff, Nat.reduceSub, Nat.reduceMul, Nat.reduceLeDiff, Nat.reduceLT, Nat.reduceBEq, PV.scal, PV.scalL, SV.scal, SV.scalL, Ob.scal, PV.isCell, pure', resO]
  refine loop_at (fun s : Nat × SV × SV × SV => mkEnv [(0, .p (.sl 1 (ints w))), (1, si q), (4, .p .nilsl), (5, .ar 9), (6, si s.1), (7, s.2.1), (12, s.2.2.1), (18, s.2.2.2)]) (fun s => mkO [(9, some (.arr 1 (ints (of5 w q s.1 0))))]) (fun s => s.1 ≤ q) (fun s => q - s.1) (0, .junk, .junk, .junk) (by simp) rfl rfl ?_
  rintro ⟨i, c1, c2, c3⟩ hi R hR hN
  simp only at hi
  by_cases h : i < q
  · have h1 : (i : Int) < q := by omega
    have hw := wrap_one (i := i) (by omega)
    simp only [h1, ↓SP, SQ, Gam.add, stepM, callC, argC, lendO, nmBy, nmC, likeL, likeB, plainOb, offs, exL, X, F, trP, trO, stepD, stepW, newA, SV.tr, SV.trL, fz, allP, Ob.tr, loadA, cellsA, SV.cells, binA, binI, eqOut, isSl, isPt, natOf, callee, snap, SV.refsL, SV.refs, thaw, fzAll, loA, hiA, elemOf, partsA, buildA, putCells, ↓reduceIte, reduceCtorEq, okCell, Nat.reduceAdd, Nat.reduceEqDiff, Nat.reduceSub, Nat.reduceMul, Nat.reduceLeDiff, Nat.reduceLT, Nat.reduceBEq, PV.scal, PV.scalL, SV.scal, SV.scalL, Ob.scal, PV.isCell, pure', resO]
    refine loop_at (fun s : Nat × SV => mkEnv [(0, .p (.sl 1 (ints w))), (1, si q), (4, .p .nilsl), (5, .ar 9), (6, si i), (7, si s.1), (12, sb true), (18, s.2)]) (fun s => mkO [(9, some (.arr 1 (ints (of5 w q i s.1))))]) (fun s => s.1 ≤ w.length) (fun s => w.length - s.1) (0, c3) (by simp) rfl rfl ?_
    rintro ⟨k, d1⟩ hk R' hR' hN'
    simp only at hk
    by_cases hkl : k < w.length
    · have h2 : (k : Int) < w.length := by omega
      have hwk := wrap_one (i := k) (by omega)
      have hg := ints_get hkl
      have hg2 := ints_get (l := of5 w q i k) (i := i) (by rw [of5_len]; exact h)
      rw [of5_get h] at hg2
      have hlen := of5_len w q i k
      have hk0 : ¬ (k : Int) < 0 := by omega
      have hi0 : ¬ (i : Int) < 0 := by omega
      have hst := of5_set (w := w) (q := q) (i := i) (k := k)
      have hor : orW .i64 (ofI5 w i k) (IntKind.i64.wrap (bitW (w.getD k 0) i * 2 ^ min k IntKind.i64.bits)) = ofI5 w i (k + 1) := rfl
      simp only [h, h2, hkl, hwk, hg, hg2, hlen, hk0, hi0, bitA_and, bitA_or, bitW_nat, hor, ints_len, ints_set, hst, ↓SP, SQ, Gam.add, stepM, callC, argC, lendO, nmBy, nmC, likeL, likeB, plainOb, offs, exL, X, F, trP, trO, stepD, stepW, newA, SV.tr, SV.trL, fz, allP, Ob.tr, loadA, cellsA, SV.cells, binA, binI, eqOut, isSl, isPt, natOf, callee, snap, SV.refsL, SV.refs, thaw, fzAll, loA, hiA, elemOf, partsA, buildA, putCells, ↓reduceIte, reduceCtorEq, okCell, Nat.reduceAdd, Nat.reduceEqDiff, Nat.reduceSub, Nat.reduceMul, Nat.reduceLeDiff, Nat.reduceLT, Nat.reduceBEq, PV.scal, PV.scalL, SV.scal, SV.scalL, Ob.scal, PV.isCell, pure', resO]
      exact hN' (k + 1, _) _ _ (by simp only; omega) (by simp only; omega) rfl rfl
    · have he : k = w.length := by omega
      have h2 : ¬ (k : Int) < w.length := by omega
      simp only [h2, ints_len, ↓SP, SQ, Gam.add, stepM, callC, argC, lendO, nmBy, nmC, likeL, likeB, plainOb, offs, exL, X, F, trP, trO, stepD, stepW, newA, SV.tr, SV.trL, fz, allP, Ob.tr, loadA, cellsA, SV.cells, binA, binI, eqOut, isSl, isPt, natOf, callee, snap, SV.refsL, SV.refs, thaw, fzAll, loA, hiA, elemOf, partsA, buildA, putCells, ↓reduceIte, reduceCtorEq, okCell, Nat.reduceAdd, Nat.reduceEqDiff, Nat.reduceSub, Nat.reduceMul, Nat.reduceLeDiff, Nat.reduceLT, Nat.reduceBEq, PV.scal, PV.scalL, SV.scal, SV.scalL, Ob.scal, PV.isCell, pure', resO]
      refine hR' _ _ _ (by intro h; cases h) ?_
      have hnx := of5_next (w := w) (q := q) (i := i)
      subst he
      simp only [hw, hnx, ↓SP, SQ, Gam.add, stepM, callC, argC, lendO, nmBy, nmC, likeL, likeB, plainOb, offs, exL, X, F, trP, trO, stepD, stepW, newA, SV.tr, SV.trL, fz, allP, Ob.tr, loadA, cellsA, SV.cells, binA, binI, eqOut, isSl, isPt, natOf, callee, snap, SV.refsL, SV.refs, thaw, fzAll, loA, hiA, elemOf, partsA, buildA, putCells, ↓reduceIte, reduceCtorEq, okCell, Nat.reduceAdd, Nat.reduceEqDiff, Nat.reduceSub, Nat.reduceMul, Nat.reduceLeDiff, Nat.reduceLT, Nat.reduceBEq, PV.scal, PV.scalL, SV.scal, SV.scalL, Ob.scal, PV.isCell, pure', resO]
      exact hN (i + 1, _, _, _) _ _ (by simp only; omega) (by simp only; omega) rfl rfl
  · have he : i = q := by omega
    have h1 : ¬ (i : Int) < q := by omega
    simp only [h1, ↓SP, SQ, Gam.add, stepM, callC, argC, lendO, nmBy, nmC, likeL, likeB, plainOb, offs, exL, X, F, trP, trO, stepD, stepW, newA, SV.tr, SV.trL, fz, allP, Ob.tr, loadA, cellsA, SV.cells, binA, binI, eqOut, isSl, isPt, natOf, callee, snap, SV.refsL, SV.refs, thaw, fzAll, loA, hiA, elemOf, partsA, buildA, putCells, ↓reduceIte, reduceCtorEq, okCell, Nat.reduceAdd, Nat.reduceEqDiff, Nat.reduceSub, Nat.reduceMul, Nat.reduceLeDiff, Nat.reduceLT, Nat.reduceBEq, PV.scal, PV.scalL, SV.scal, SV.scalL, Ob.scal, PV.isCell, pure', resO]
    refine hR _ _ _ (by intro h; cases h) ?_
    simp only [↓SP, SQ, Gam.add, stepM, callC, argC, lendO, nmBy, nmC, likeL, likeB, plainOb, offs, exL, X, F, trP, trO, stepD, stepW, newA, SV.tr, SV.trL, fz, allP, Ob.tr, loadA, cellsA, SV.cells, binA, binI, eqOut, isSl, isPt, natOf, callee, snap, SV.refsL, SV.refs, thaw, fzAll, loA, hiA, elemOf, partsA, buildA, putCells, ↓reduceIte, reduceCtorEq, okCell, Nat.reduceAdd, Nat.reduceEqDiff, Nat.reduceSub, Nat.reduceMul, Nat.reduceLeDiff, Nat.reduceLT, Nat.reduceBEq, PV.scal, PV.scalL, SV.scal, SV.scalL, Ob.scal, PV.isCell, pure', resO]
    subst he
    refine finA_gen [9] trivial (by simp [retA, rvA, mkE_cons, mk_nil, mkO_cons, mkO_nil, loadA, SV.tr, SV.trL, nmF, rn_nil, rn_cons1, rn_cons2, plainOb, SV.refsL, SV.refs, Ob.refs, X, F, List.range_succ, mkO, setO_mk]; rfl) ?_ ?_ ?_ ?_ ?_ ?_ ?_ <;> simp [ofL5, retA, rvA, mkE_cons, mk_nil, mkO_cons, mkO_nil, loadA, SV.tr, SV.trL, nmF, rn_nil, rn_cons1, rn_cons2, plainOb, SV.refsL, SV.refs, Ob.refs, X, F, List.range_succ, mkO, setO_mk]
def smT (f : Nat → Nat) : Nat → Nat
  | 0 => 0
  | k + 1 => smT f k + f k
theorem smT_congr {f g : Nat → Nat} : ∀ k, (∀ w, w < k → f w = g w) → smT f k = smT g k
  | 0, _ => rfl
  | k + 1, h => by rw [smT, smT, smT_congr k fun w hw => h w (by omega), h k (by omega)]
theorem smT_le {f g : Nat → Nat} : ∀ k, (∀ w, w < k → f w ≤ g w) → smT f k ≤ smT g k
  | 0, _ => Nat.le_refl _
  | k + 1, h => Nat.add_le_add (smT_le k fun w hw => h w (by omega)) (h k (by omega))
theorem smT_add (f g : Nat → Nat) : ∀ k, smT (fun w => f w + g w) k = smT f k + smT g k
  | 0 => rfl
  | k + 1 => by simp only [smT, smT_add f g k]; omega
theorem smT_const (c : Nat) : ∀ k, smT (fun _ => c) k = k * c
  | 0 => by simp [smT]
  | k + 1 => by rw [smT, smT_const c k, Nat.add_mul, Nat.one_mul]
theorem smT_zero {f : Nat → Nat} : ∀ k, (∀ w, w < k → f w = 0) → smT f k = 0
  | 0, _ => rfl
  | k + 1, h => by rw [smT, smT_zero k fun w hw => h w (by omega), h k (by omega)]
theorem smT_one {f : Nat → Nat} {j : Nat} : ∀ k, j < k → (∀ w, w < k → w ≠ j → f w = 0) → smT f k = f j
  | 0, h, _ => by omega
  | k + 1, h, hz => by
    by_cases e : j = k
    · subst e
      rw [smT, smT_zero j fun w hw => hz w (by omega) (by omega)]; omega
    · rw [smT, smT_one k (by omega) fun w hw => hz w (by omega), hz k (by omega) (by omega)]; omega
theorem smT_get {f : Nat → Nat} {j : Nat} : ∀ k, j < k → f j ≤ smT f k
  | 0, h => by omega
  | k + 1, h => by
    by_cases e : j = k
    · subst e; rw [smT]; omega
    · have := smT_get (f := f) k (show j < k by omega)
      rw [smT]; omega
theorem smT_two (f : Nat → Nat) : ∀ k, smT f (2 * k) = smT (fun w => f (2 * w) + f (2 * w + 1)) k
  | 0 => rfl
  | k + 1 => by
    rw [show 2 * (k + 1) = 2 * k + 1 + 1 by omega, smT, smT, smT_two f k, smT]; omega
theorem smT_swap (f : Nat → Nat → Nat) (n : Nat) : ∀ k, smT (fun w => smT (fun j => f w j) n) k = smT (fun j => smT (fun w => f w j) k) n
  | 0 => (smT_zero n fun _ _ => rfl).symm
  | k + 1 => by
    rw [smT, smT_swap f n k, ← smT_add]
    rfl
theorem Wn_pas : ∀ m, m < 13 → ∀ i, i < 14 → Wn (m + 1) (i + 1) = Wn m i + Wn m (i + 1) := by decide +kernel
theorem Wn_out : ∀ m, m < 14 → Wn m (m + 1) = 0 := by decide +kernel
theorem smT_pas {m : Nat} (hm : m < 13) (f : Nat → Nat) : ∀ k, k ≤ 14 → smT (fun i => Wn (m + 1) i * f i) (k + 1) = smT (fun i => Wn m i * f i) (k + 1) + smT (fun i => Wn m i * f (i + 1)) k
  | 0, _ => by simp [smT, Wn]
  | k + 1, hk => by
    rw [smT, smT_pas hm f k (by omega), Wn_pas m hm k (by omega), smT, Nat.add_mul]
    have e1 : smT (fun i => Wn m i * f i) (k + 1 + 1) = smT (fun i => Wn m i * f i) (k + 1) + Wn m (k + 1) * f (k + 1) := rfl
    have e2 : smT (fun i => Wn m i * f (i + 1)) (k + 1) = smT (fun i => Wn m i * f (i + 1)) k + Wn m k * f (k + 1) := rfl
    rw [e1, e2, smT]; omega
theorem pc_bit (c w b : Nat) (hb : b < 2) : ((2 * w + b) ^^^ c) / 2 = w ^^^ (c / 2) ∧ (((2 * w + b) ^^^ c) % 2 = if c % 2 = b then 0 else 1) := by
  constructor
  · rw [Nat.xor_div_two]; congr 1; omega
  · have h := @Nat.xor_mod_two_eq_one (2 * w + b) c
    have h2 := Nat.mod_lt ((2 * w + b) ^^^ c) (y := 2) (by omega)
    have h3 : (2 * w + b) % 2 = b := by omega
    rw [h3] at h
    have hc := Nat.mod_lt c (y := 2) (by omega)
    by_cases e : c % 2 = b
    · rw [if_pos e]
      have : ¬ ((2 * w + b) ^^^ c) % 2 = 1 := fun x => h.1 x (by rw [e])
      omega
    · rw [if_neg e]
      exact h.2 fun x => by
        have : b = 0 ∨ b = 1 := by omega
        have : c % 2 = 0 ∨ c % 2 = 1 := by omega
        rcases this with h5 | h5 <;> rcases ‹b = 0 ∨ b = 1› with h6 | h6
        · exact e (by omega)
        · have := x.1 h6; omega
        · have := x.2 h5; omega
        · exact e (by omega)
/-- All words, by how far they lie from one. -/
theorem sum_pc : ∀ m, m ≤ 13 → ∀ (f : Nat → Nat) (c : Nat), smT (fun w => f (pcN m (w ^^^ c))) (2 ^ m) = smT (fun i => Wn m i * f i) (m + 1)
  | 0, _, f, c => by simp [smT, pcN, Wn]
  | m + 1, hm, f, c => by
    rw [show 2 ^ (m + 1) = 2 * 2 ^ m by rw [Nat.pow_succ]; omega, smT_two]
    have e : ∀ w, w < 2 ^ m → f (pcN (m + 1) (2 * w ^^^ c)) + f (pcN (m + 1) ((2 * w + 1) ^^^ c)) = (fun x => f x + f (x + 1)) (pcN m (w ^^^ (c / 2))) := fun w _ => by
      have h0 := pc_bit c w 0 (by omega)
      have h1 := pc_bit c w 1 (by omega)
      rw [Nat.add_zero] at h0
      simp only [pcN, h0.1, h0.2, h1.1, h1.2]
      by_cases g : c % 2 = 0
      · have g1 : ¬ c % 2 = 1 := by omega
        rw [if_pos g, if_neg g1, Nat.zero_add, Nat.add_comm 1]
      · have g1 : c % 2 = 1 := by omega
        rw [if_neg g, if_pos g1, Nat.zero_add, Nat.add_comm 1]; omega
    rw [smT_congr _ e, sum_pc m (by omega) (fun x => f x + f (x + 1)) (c / 2), smT_pas (by omega) f (m + 1) (by omega)]
    have e1 : smT (fun i => Wn m i * f i) (m + 1 + 1) = smT (fun i => Wn m i * f i) (m + 1) + Wn m (m + 1) * f (m + 1) := rfl
    rw [e1, Wn_out m (by omega), Nat.zero_mul]
    simp only [Nat.add_zero]
    rw [← smT_add]
    exact smT_congr _ fun i _ => by simp only [Nat.mul_add]
theorem pcN_st : ∀ k f x, k ≤ f → x < 2 ^ k → pcN f x = pcN k x
  | 0, f, x, _, h => by
    have : x = 0 := by simpa using h
    subst this
    rw [pcN_zero, pcN_zero]
  | k + 1, 0, x, h, _ => by omega
  | k + 1, f + 1, x, h, hx => by
    rw [Nat.pow_succ] at hx
    rw [pcN, pcN, pcN_st k f (x / 2) (by omega) (by omega)]
theorem pc_tri : ∀ f x y, pcN f (x ^^^ y) ≤ pcN f x + pcN f y
  | 0, _, _ => by simp [pcN]
  | f + 1, x, y => by
    have h := pc_tri f (x / 2) (y / 2)
    rw [pcN, pcN, pcN, Nat.xor_div_two]
    have h1 := @Nat.xor_mod_two_eq_one x y
    have h2 := Nat.mod_lt (x ^^^ y) (y := 2) (by omega)
    have : (x ^^^ y) % 2 ≤ x % 2 + y % 2 := by
      by_cases g : (x ^^^ y) % 2 = 1
      · have := h1.1 g
        by_cases g1 : x % 2 = 1
        · omega
        · by_cases g2 : y % 2 = 1
          · omega
          · exact absurd (by simp [g1, g2]) this
      · omega
    omega
theorem lsI_min (ds : List Int) : ∀ i j, j < i → (lsI ds i).1 ≤ ds.getD j 0
  | 0, j, h => by omega
  | i + 1, j, h => by
    rw [lsI]
    by_cases e : j = i
    · subst e
      split
      · exact Int.le_refl _
      · rename_i hn
        have : ¬ ds.getD j 0 < (lsI ds j).1 := fun x => hn (.inr x)
        split
        · simp only; omega
        · omega
    · have hm := lsI_min ds i j (by omega)
      have hp : 0 < (lsI ds i).2.length := by
        obtain ⟨k, rfl⟩ : ∃ k, i = k + 1 := ⟨i - 1, by omega⟩
        exact lsI_pos ds k
      split
      · rename_i hn
        rcases hn with hn | hn
        · omega
        · simp only; omega
      · split
        · exact hm
        · exact hm
/-- The nearest word is one of the words, and none is nearer. -/
theorem neN_in (l : List Int) {n v : Nat} (hn : 1 ≤ n) : ∃ j, j < n ∧ (neN l n v).toNat = pcN 14 (wdN l j l.length ^^^ v) := by
  obtain ⟨k, rfl⟩ : ∃ k, n = k + 1 := ⟨n - 1, by omega⟩
  obtain ⟨j, hj, e⟩ := lsI_in (apL l v (k + 1)) k
  refine ⟨j, by omega, ?_⟩
  unfold neN
  rw [e, apL_get l v (by omega), Int.toNat_natCast, Int.toNat_natCast]
theorem neN_min (l : List Int) {n v j : Nat} (hj : j < n) : (neN l n v).toNat ≤ pcN 14 (wdN l j l.length ^^^ v) := by
  have h := lsI_min (apL l v n) n j hj
  rw [apL_get l v hj, Int.toNat_natCast] at h
  unfold neN
  omega
theorem dcN_sm (s o : Int) (l : List Int) (n : Nat) : ∀ k, dcN s o l n k = smT (fun v => partN s.toNat o.toNat l.length (neN l n v).toNat) k
  | 0 => rfl
  | k + 1 => by rw [dcN, smT, dcN_sm s o l n k]
theorem inB_sm (s o m : Nat) : ∀ k, inB s o m k = smT (fun i => Wn m i * partN s o m i) k
  | 0 => rfl
  | k + 1 => by rw [inB, smT, inB_sm s o m k]
theorem inB_all2 : ∀ o, o < 11 → ∀ s, s < 11 → s ≤ o → ∀ m, m < 13 → inB s o m (m + 1) = o ^ m := by decide +kernel
theorem inB_cut (s o m t : Nat) : ∀ k, smT (fun i => Wn m i * (if i ≤ t then partN s o m i else 0)) k = inB s o m (min k (t + 1))
  | 0 => by rw [Nat.zero_min]; rfl
  | k + 1 => by
    rw [smT, inB_cut s o m t k]
    by_cases h : k ≤ t
    · rw [if_pos h, show min k (t + 1) = k by omega, show min (k + 1) (t + 1) = k + 1 by omega, inB]
    · rw [if_neg h, Nat.mul_zero, show min k (t + 1) = t + 1 by omega, show min (k + 1) (t + 1) = t + 1 by omega]; rfl
/-- The shares of all words, and of those that lie near, around one word. -/
theorem sum_all {s o m c : Nat} (ho : o ≤ 10) (hs : s ≤ o) (hm : m ≤ 12) (hc : c < 2 ^ m) : smT (fun w => partN s o m (pcN 14 (c ^^^ w))) (2 ^ m) = o ^ m := by
  have e : ∀ w, w < 2 ^ m → partN s o m (pcN 14 (c ^^^ w)) = partN s o m (pcN m (w ^^^ c)) := fun w hw => by
    rw [Nat.xor_comm, pcN_st m 14 _ (by omega) (Nat.xor_lt_two_pow hw hc)]
  rw [smT_congr _ e, sum_pc m (by omega) (partN s o m) c, ← inB_sm]
  exact inB_all2 o (by omega) s (by omega) hs m (by omega)
theorem sum_cut {s o m c t : Nat} (hm : m ≤ 12) (hc : c < 2 ^ m) (ht : t ≤ m) : smT (fun w => if pcN 14 (c ^^^ w) ≤ t then partN s o m (pcN 14 (c ^^^ w)) else 0) (2 ^ m) = inB s o m (t + 1) := by
  have e : ∀ w, w < 2 ^ m → (if pcN 14 (c ^^^ w) ≤ t then partN s o m (pcN 14 (c ^^^ w)) else 0) = (fun i => if i ≤ t then partN s o m i else 0) (pcN m (w ^^^ c)) := fun w hw => by
    rw [Nat.xor_comm, pcN_st m 14 _ (by omega) (Nat.xor_lt_two_pow hw hc)]
  rw [smT_congr _ e, sum_pc m (by omega) (fun i => if i ≤ t then partN s o m i else 0) c, inB_cut, show min (m + 1) (t + 1) = t + 1 by omega]
/-- What is read right is no more than all. -/
theorem dec_le {s o : Int} {l : List Int} {n : Nat} (ho : o.toNat ≤ 10) (hs : s.toNat ≤ o.toNat) (hl : l.length ≤ 12) (hn : 1 ≤ n) : dcN s o l n (2 ^ l.length) ≤ n * o.toNat ^ l.length := by
  rw [dcN_sm]
  have h1 : ∀ v, v < 2 ^ l.length → partN s.toNat o.toNat l.length (neN l n v).toNat ≤ smT (fun j : Nat => partN s.toNat o.toNat l.length (pcN 14 (wdN l (j : Int) l.length ^^^ v))) n := fun v _ => by
    obtain ⟨j, hj, e⟩ := neN_in l (v := v) hn
    rw [e]
    exact smT_get (f := fun j : Nat => partN s.toNat o.toNat l.length (pcN 14 (wdN l (j : Int) l.length ^^^ v))) n hj
  refine Nat.le_trans (smT_le _ h1) ?_
  rw [smT_swap (fun v j => partN s.toNat o.toNat l.length (pcN 14 (wdN l (j : Int) l.length ^^^ v)))]
  rw [smT_congr n fun j _ => sum_all ho hs hl (wdN_lt l (j : Int) l.length), smT_const]
  exact Nat.le_refl _
/-- What is safe is read right. -/
theorem dec_ge {s o : Int} {l : List Int} {n t : Nat} (hl : l.length ≤ 12) (hn : 1 ≤ n) (ht : t ≤ l.length) (hap : ∀ i j : Nat, i < n → j < n → i ≠ j → 2 * t < pcN 14 (wdN l (i : Int) l.length ^^^ wdN l (j : Int) l.length)) : n * inB s.toNat o.toNat l.length (t + 1) ≤ dcN s o l n (2 ^ l.length) := by
  rw [dcN_sm]
  have h1 : ∀ v, v < 2 ^ l.length → smT (fun j : Nat => if pcN 14 (wdN l (j : Int) l.length ^^^ v) ≤ t then partN s.toNat o.toNat l.length (pcN 14 (wdN l (j : Int) l.length ^^^ v)) else 0) n ≤ partN s.toNat o.toNat l.length (neN l n v).toNat := fun v _ => by
    have hd : ∀ i j : Nat, i < n → j < n → i ≠ j → pcN 14 (wdN l (i : Int) l.length ^^^ v) ≤ t → ¬ pcN 14 (wdN l (j : Int) l.length ^^^ v) ≤ t := fun i j hi hj hij h1 h2 => by
      have h3 := hap i j hi hj hij
      have h4 := pc_tri 14 (wdN l (i : Int) l.length ^^^ v) (wdN l (j : Int) l.length ^^^ v)
      rw [show wdN l (i : Int) l.length ^^^ v ^^^ (wdN l (j : Int) l.length ^^^ v) = wdN l (i : Int) l.length ^^^ wdN l (j : Int) l.length by
        rw [Nat.xor_assoc, Nat.xor_comm v, Nat.xor_assoc, Nat.xor_self, Nat.xor_zero]] at h4
      omega
    by_cases hx : ∃ j, j < n ∧ pcN 14 (wdN l (j : Int) l.length ^^^ v) ≤ t
    · obtain ⟨j, hj, hjt⟩ := hx
      rw [smT_one (j := j) n hj fun w hw hwj => if_neg (hd j w hj hw (fun e => hwj e.symm) hjt), if_pos hjt]
      obtain ⟨i, hi, e⟩ := neN_in l (v := v) hn
      have hmn := neN_min l (n := n) (v := v) (j := j) hj
      have hij : i = j := by
        refine Classical.byContradiction fun h => hd j i hj hi (fun e => h e.symm) hjt ?_
        rw [← e]; omega
      rw [e, hij]
      exact Nat.le_refl _
    · rw [smT_zero n fun w hw => if_neg fun h => hx ⟨w, hw, h⟩]
      exact Nat.zero_le _
  refine Nat.le_trans (Nat.le_of_eq ?_) (smT_le _ h1)
  rw [smT_swap (fun v j => if pcN 14 (wdN l (j : Int) l.length ^^^ v) ≤ t then partN s.toNat o.toNat l.length (pcN 14 (wdN l (j : Int) l.length ^^^ v)) else 0)]
  rw [smT_congr n fun j _ => sum_cut hl (wdN_lt l (j : Int) l.length) ht, smT_const]
theorem dec_1 {s o : Int} {l : List Int} (ho : o.toNat ≤ 10) (hs : s.toNat ≤ o.toNat) (hl : l.length ≤ 12) : dcN s o l 1 (2 ^ l.length) = o.toNat ^ l.length := by
  have h1 := dec_le (s := s) (o := o) (l := l) (n := 1) ho hs hl (Nat.le_refl _)
  have h2 := dec_ge (s := s) (o := o) (l := l) (n := 1) (t := l.length) hl (Nat.le_refl _) (Nat.le_refl _) (fun i j hi hj hij => by omega)
  rw [inB_all2 _ (by omega) _ (by omega) hs _ (by omega)] at h2
  omega
/-- Words lie no less apart than the gap says. -/
theorem gI_min (w : List Int) (i : Nat) (g : Int) (hi : i ≠ 1) : ∀ j, gI w i g j ≤ g ∧ ∀ b, b < j → gI w i g j ≤ apD w i b
  | 0 => ⟨Int.le_refl _, fun b hb => by omega⟩
  | j + 1 => by
    obtain ⟨h1, h2⟩ := gI_min w i g hi j
    rw [gI]
    split
    · rename_i h
      have h : apD w i j < gI w i g j := h.resolve_left hi
      refine ⟨by omega, fun b hb => ?_⟩
      by_cases e : b = j
      · subst e; exact Int.le_refl _
      · have := h2 b (by omega); omega
    · rename_i h
      have h : ¬ apD w i j < gI w i g j := fun x => h (.inr x)
      refine ⟨h1, fun b hb => ?_⟩
      by_cases e : b = j
      · subst e; omega
      · exact h2 b (by omega)
theorem gO_min (w : List Int) : ∀ n a b, a < n → b < a → gO w n ≤ apD w a b
  | 0, a, b, h, _ => by omega
  | n + 1, a, b, h, hb => by
    rw [gO]
    by_cases e : n = 1
    · subst e
      have h1 : a = 1 := by omega
      have h2 : b = 0 := by omega
      subst h1; subst h2
      simp [gI]
    · obtain ⟨h1, h2⟩ := gI_min w n (gO w n) e n
      by_cases e2 : a = n
      · subst e2; exact h2 b hb
      · have := gO_min w n a b (by omega) hb
        omega
theorem gap_ap {n : Nat} {l : List Int} {i j : Nat} (hi : i < n) (hj : j < n) (hij : i ≠ j) : gO (wdL l n) n ≤ (pcN 14 (wdN l (i : Int) l.length ^^^ wdN l (j : Int) l.length) : Int) := by
  have key : ∀ a b : Nat, a < n → b < a → gO (wdL l n) n ≤ (pcN 14 (wdN l (a : Int) l.length ^^^ wdN l (b : Int) l.length) : Int) := fun a b ha hb => by
    have h := gO_min (wdL l n) n a b ha hb
    unfold apD at h
    rw [wdL_get l ha, wdL_get l (by omega), Int.toNat_natCast, Int.toNat_natCast] at h
    exact h
  by_cases h : j < i
  · exact key i j hi h
  · rw [Nat.xor_comm]; exact key j i hj (by omega)
theorem frac_le {R B c d : Nat} (hB : 0 < B) (hd : 0 < d) (hdB : d ∣ B) (hRB : R ≤ B) (hcd : c ≤ d) (hle : c * B ≤ R * d) :
    R / Nat.gcd R B ≤ B / Nat.gcd R B ∧ 0 < B / Nat.gcd R B ∧ B / Nat.gcd R B ≤ B ∧
    R / Nat.gcd R B * (d / Nat.gcd (B / Nat.gcd R B) d) ≤ B ∧ c * (B / Nat.gcd R B / Nat.gcd (B / Nat.gcd R B) d) ≤ B ∧
    ¬ R / Nat.gcd R B * (d / Nat.gcd (B / Nat.gcd R B) d) < c * (B / Nat.gcd R B / Nat.gcd (B / Nat.gcd R B) d) := by
  have hg : 0 < Nat.gcd R B := Nat.gcd_pos_of_pos_right R hB
  obtain ⟨a, ha⟩ := Nat.gcd_dvd_left R B
  obtain ⟨b, hb⟩ := Nat.gcd_dvd_right R B
  generalize Nat.gcd R B = g at *
  subst ha
  have hb' : B = g * b := hb
  subst hb'
  rw [Nat.mul_div_cancel_left _ hg, Nat.mul_div_cancel_left _ hg]
  have hb0 : 0 < b := Nat.pos_of_mul_pos_left hB
  have hab : a ≤ b := Nat.le_of_mul_le_mul_left hRB hg
  have hbB : b ≤ g * b := Nat.le_mul_of_pos_left b hg
  have hlc : b / Nat.gcd b d * d ∣ g * b := by
    have h1 := Nat.lcm_dvd (show b ∣ g * b from Nat.dvd_mul_left b g) hdB
    rwa [Nat.lcm, Nat.mul_div_right_comm (Nat.gcd_dvd_left b d)] at h1
  have hq : 0 < Nat.gcd b d := Nat.gcd_pos_of_pos_right b hd
  obtain ⟨b1, hb1⟩ := Nat.gcd_dvd_left b d
  obtain ⟨d1, hd1⟩ := Nat.gcd_dvd_right b d
  have hle2 := Nat.le_of_dvd hB hlc
  generalize Nat.gcd b d = q at *
  subst hb1; subst hd1
  rw [Nat.mul_div_cancel_left _ hq] at hle2
  rw [Nat.mul_div_cancel_left _ hq, Nat.mul_div_cancel_left _ hq]
  refine ⟨hab, hb0, hbB, ?_, ?_, ?_⟩
  · refine Nat.le_trans (Nat.mul_le_mul_right d1 hab) (Nat.le_trans (Nat.le_of_eq ?_) hle2)
    rw [Nat.mul_comm q b1, Nat.mul_assoc]
  · refine Nat.le_trans (Nat.mul_le_mul_right b1 hcd) (Nat.le_trans (Nat.le_of_eq ?_) hle2)
    rw [Nat.mul_comm (q * d1) b1]
  · have h : c * b1 ≤ a * d1 := by
      have : (g * q) * (c * b1) ≤ (g * q) * (a * d1) := by
        refine Nat.le_trans (Nat.le_of_eq ?_) (Nat.le_trans hle (Nat.le_of_eq ?_))
        · simp only [Nat.mul_comm, Nat.mul_left_comm, Nat.mul_assoc]
        · simp only [Nat.mul_comm, Nat.mul_left_comm, Nat.mul_assoc]
      exact Nat.le_of_mul_le_mul_left this (Nat.mul_pos hg hq)
    omega
end Go.Proofs.Ytmbljmolegalhaa.Pam
