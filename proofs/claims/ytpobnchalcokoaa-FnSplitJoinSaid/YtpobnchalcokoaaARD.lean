/- A part of the proof that stands in this folder: a small machine whose steps are shown to be the steps of the model, or walks of functions by it. No condition of its own. -/
import Derived.Test.YtpobnchalcokoaaPamZ
import Derived.Test.YtpobnchalcokoaaPamT3
import Derived.Lib.Join
import Derived.Lib.Bytealg
set_option linter.unusedVariables false
set_option linter.unusedSimpArgs false
namespace Go.Proofs.Ytpobnchalcokoaa.Pam
open Go
abbrev Cu := Int × Int
def u8s (l : List Int) : List PV := l.map fun n => .int .u8 n
def isU : PV → Bool
  | .int .u8 n => decide (0 ≤ n) && decide (n ≤ 255)
  | _ => false
def ofU : PV → Int
  | .int _ n => n
  | _ => 0
def slU : PV → Option (List Int)
  | .sl 1 xs => if xs.all isU = true then some (xs.map ofU) else none
  | .nilsl => some []
  | _ => none
theorem isU_out : ∀ {xs : List PV}, xs.all isU = true → xs = u8s (xs.map ofU) ∧ ∀ x ∈ xs.map ofU, 0 ≤ x ∧ x ≤ 255
  | [], _ => ⟨rfl, by simp⟩
  | x :: r, h => by
    simp only [List.all_cons, Bool.and_eq_true] at h
    obtain ⟨h1, h2⟩ := isU_out (xs := r) h.2
    have h3 := h.1
    unfold isU at h3
    split at h3
    · rename_i n
      simp only [Bool.and_eq_true, decide_eq_true_eq] at h3
      refine ⟨?_, fun y hy => ?_⟩
      · simp only [List.map_cons, u8s, ofU] at h1 ⊢; rw [← h1]
      · simp only [List.map_cons, List.mem_cons] at hy
        rcases hy with rfl | hy
        · exact h3
        · exact h2 y hy
    · cases h3
theorem slU_out {v : PV} {l : List Int} (h : slU v = some l) : (v = .sl 1 (u8s l) ∨ (v = .nilsl ∧ l = [])) ∧ ∀ x ∈ l, 0 ≤ x ∧ x ≤ 255 := by
  unfold slU at h
  split at h
  · split at h
    · rename_i hs
      obtain ⟨h1, h2⟩ := isU_out hs
      injection h with h
      subst h
      rw [← h1]
      exact ⟨.inl rfl, h2⟩
    · cases h
  · injection h with h; subst h; exact ⟨.inr ⟨rfl, rfl⟩, by simp⟩
  · cases h
theorem u8s_len (l : List Int) : (u8s l).length = l.length := by simp [u8s]
theorem u8s_get {l : List Int} {i : Nat} (h : i < l.length) : (u8s l)[i]? = some (.int .u8 (l.getD i 0)) := by simp [u8s, h]
def nxB (l : List Int) (a : Int) : Int := if a < l.length then l.getD a.toNat 0 else 0
def nxS (l : List Int) (c : Cu) : Int := IntKind.u64.wrap (IntKind.u64.wrap (IntKind.u64.wrap (c.2 * 6364136223846793005) + IntKind.u64.wrap (nxB l c.1)) + 462197)
def nxR (l : List Int) (c : Cu) : Int := if c.1 + 1 ≤ l.length then nxB l c.1 else IntKind.i64.wrap (andW .u64 ((nxS l c).fdiv (2 ^ min (Int.toNat 40) IntKind.u64.bits)) 255)
def nxC (l : List Int) (c : Cu) : Cu := (c.1 + 1, nxS l c)
theorem nxB_b {l : List Int} (hl : ∀ x ∈ l, 0 ≤ x ∧ x ≤ 255) {a : Int} (h0 : 0 ≤ a) : 0 ≤ nxB l a ∧ nxB l a ≤ 255 := by
  unfold nxB
  split
  · rename_i h
    have : a.toNat < l.length := by omega
    rw [show l.getD a.toNat 0 = l[a.toNat] by simp [this]]
    exact hl _ (List.getElem_mem _)
  · omega
theorem and255 (x : Int) : 0 ≤ andW .u64 x 255 ∧ andW .u64 x 255 ≤ 255 := by
  have h : (BitVec.ofInt 64 x &&& BitVec.ofInt 64 255).toNat ≤ 255 := by
    rw [BitVec.toNat_and]
    exact Nat.le_trans Nat.and_le_right (by decide)
  show 0 ≤ IntKind.u64.wrap ((BitVec.ofInt 64 x &&& BitVec.ofInt 64 255).toNat : Int) ∧ IntKind.u64.wrap ((BitVec.ofInt 64 x &&& BitVec.ofInt 64 255).toNat : Int) ≤ 255
  generalize (BitVec.ofInt 64 x &&& BitVec.ofInt 64 255).toNat = n at h ⊢
  rw [IntKind.wrap_u64]
  omega
theorem nxR_b {l : List Int} (hl : ∀ x ∈ l, 0 ≤ x ∧ x ≤ 255) {c : Cu} (h0 : 0 ≤ c.1) : 0 ≤ nxR l c ∧ nxR l c ≤ 255 := by
  unfold nxR
  split
  · exact nxB_b hl h0
  · have := and255 ((nxS l c).fdiv (2 ^ min (Int.toNat 40) IntKind.u64.bits))
    rw [wrap64 (by omega) (by omega)]
    exact this
def a_next : AFn := ⟨1, 
  .seq (.reg [⟨some 2, none, .d (.mv (.c (.int .i64 0)))⟩])
  (.seq (.reg [⟨some 3, none, .d (.mv (.c (.int .i64 0)))⟩])
  (.seq (.seq (.dreg [] [([], ⟨some 4, none, .d (.mv (.t 0))⟩),
    ([], ⟨some 5, none, .d (.nilck (.t 4))⟩),
    ([], ⟨some 6, none, .d (.fa 1 (.t 5))⟩),
    ([], ⟨some 7, none, .d (.load false 1 (.t 6))⟩),
    ([], ⟨some 8, none, .d (.mv (.t 0))⟩),
    ([], ⟨some 9, none, .d (.nilck (.t 8))⟩),
    ([], ⟨some 10, none, .d (.fa 0 (.t 9))⟩),
    ([], ⟨some 11, none, .d (.load false 1 (.t 10))⟩),
    ([], ⟨some 12, none, .d (.len (.t 11))⟩)] [⟨some 13, none, .d (.bin .arith .lss (.t 7) (.t 12))⟩])
  (.cond (.t 13) (.dreg [] [([], ⟨some 14, none, .d (.mv (.t 0))⟩),
     ([], ⟨some 15, none, .d (.nilck (.t 14))⟩),
     ([], ⟨some 16, none, .d (.fa 0 (.t 15))⟩),
     ([], ⟨some 17, none, .d (.load false 1 (.t 16))⟩),
     ([], ⟨some 18, none, .d (.mv (.t 0))⟩),
     ([], ⟨some 19, none, .d (.nilck (.t 18))⟩),
     ([], ⟨some 20, none, .d (.fa 1 (.t 19))⟩),
     ([], ⟨some 21, none, .d (.load false 1 (.t 20))⟩)] [⟨some 22, none, .d (.ia 1 (.t 17) (.t 21))⟩,
     ⟨some 23, none, .d (.load false 1 (.t 22))⟩,
     ⟨some 24, none, .d (.conv .i64 (.t 23))⟩,
     ⟨some 3, none, .d (.mv (.t 24))⟩]) (.skip)))
  (.seq (.reg [⟨some 25, none, .d (.mv (.t 0))⟩,
    ⟨some 26, none, .d (.nilck (.t 25))⟩,
    ⟨some 27, none, .d (.fa 1 (.t 26))⟩,
    ⟨some 28, none, .d (.load false 1 (.t 27))⟩,
    ⟨some 29, none, .d (.bin .arith .add (.t 28) (.c (.int .i64 1)))⟩,
    ⟨some 30, none, .d (.nilck (.t 25))⟩,
    ⟨some 31, none, .d (.fa 1 (.t 30))⟩,
    ⟨none, none, .w (.store 1 (.t 31) (.t 29))⟩])
  (.seq (.reg [⟨some 32, none, .d (.mv (.t 0))⟩,
    ⟨some 33, none, .d (.mv (.t 0))⟩,
    ⟨some 34, none, .d (.nilck (.t 33))⟩,
    ⟨some 35, none, .d (.fa 2 (.t 34))⟩,
    ⟨some 36, none, .d (.load false 1 (.t 35))⟩,
    ⟨some 37, none, .d (.bin .arith .mul (.t 36) (.c (.int .u64 6364136223846793005)))⟩,
    ⟨some 38, none, .d (.mv (.t 3))⟩,
    ⟨some 39, none, .d (.conv .u64 (.t 38))⟩,
    ⟨some 40, none, .d (.bin .arith .add (.t 37) (.t 39))⟩,
    ⟨some 41, none, .d (.bin .arith .add (.t 40) (.c (.int .u64 462197)))⟩,
    ⟨some 42, none, .d (.nilck (.t 32))⟩,
    ⟨some 43, none, .d (.fa 2 (.t 42))⟩,
    ⟨none, none, .w (.store 1 (.t 43) (.t 41))⟩])
  (.seq (.seq (.dreg [] [([], ⟨some 44, none, .d (.mv (.t 0))⟩),
    ([], ⟨some 45, none, .d (.nilck (.t 44))⟩),
    ([], ⟨some 46, none, .d (.fa 1 (.t 45))⟩),
    ([], ⟨some 47, none, .d (.load false 1 (.t 46))⟩),
    ([], ⟨some 48, none, .d (.mv (.t 0))⟩),
    ([], ⟨some 49, none, .d (.nilck (.t 48))⟩),
    ([], ⟨some 50, none, .d (.fa 0 (.t 49))⟩),
    ([], ⟨some 51, none, .d (.load false 1 (.t 50))⟩),
    ([], ⟨some 52, none, .d (.len (.t 51))⟩)] [⟨some 53, none, .d (.bin .arith .leq (.t 47) (.t 52))⟩])
  (.cond (.t 53) (.seq (.reg [⟨some 54, none, .d (.mv (.t 3))⟩,
     ⟨some 2, none, .d (.mv (.t 54))⟩])
   (.ret)) (.skip)))
  (.seq (.reg [⟨some 55, none, .d (.mv (.t 0))⟩,
    ⟨some 56, none, .d (.nilck (.t 55))⟩,
    ⟨some 57, none, .d (.fa 2 (.t 56))⟩,
    ⟨some 58, none, .d (.load false 1 (.t 57))⟩,
    ⟨some 59, none, .d (.bin .arith .shr (.t 58) (.c (.int .u64 40)))⟩,
    ⟨some 60, none, .d (.bin .arith .and (.t 59) (.c (.int .u64 255)))⟩,
    ⟨some 61, none, .d (.conv .i64 (.t 60))⟩,
    ⟨some 2, none, .d (.mv (.t 61))⟩])
  (.ret))))))), [.tmp 2]⟩
def n_next : Nat → Option Ann := fun _ => none
abbrev k_next : List Nat := [0, 2, 3, 13, 53]
abbrev o_next : List Nat := []
def c_next : Con
  | [.bx 1000000 0], [.box [.p v, .p (.int .i64 a), .p (.int .u64 s)]] => match slU v with
    | some l => if 0 ≤ a ∧ a ≤ 1000000 then some (.p (.int .i64 (nxR l (a, s))), [.box [.p v, .p (.int .i64 (a + 1)), .p (.int .u64 (nxS l (a, s)))]], []) else none
    | none => none
  | _, _ => none
theorem s_next {P : Program} (hm : P.follows .mixedOrders = true) {Γ : Gam} (hΓ : GS P Γ) {n : FuncId} (is : Is P n a_next)  : Says P n c_next := by
  intro args ext r ext' fs h
  unfold c_next at h
  split at h
  case h_2 => cases h
  rename_i v a s
  split at h
  case h_2 => cases h
  rename_i l hv
  split at h
  case isFalse => cases h
  rename_i hc
  obtain ⟨h0, h1⟩ := hc
  simp only [Option.some.injEq, Prod.mk.injEq] at h
  obtain ⟨rfl, rfl, rfl⟩ := h
  obtain ⟨hv1, hr⟩ := slU_out hv
  have hw1 : IntKind.i64.wrap (a + 1) = a + 1 := wrap64 (by omega) (by omega)
  refine is.goX hm hΓ k_next (1000000 :: o_next) (by simp [a_next]) (by simp) ?_
  rcases hv1 with rfl | ⟨rfl, rfl⟩
  · by_cases hlt : a < l.length
    · have hn : ((a.toNat : Nat) : Int) = a := by omega
      have hb : l.getD a.toNat 0 = nxB l a := by simp [nxB, hlt]
      have hg := u8s_get (l := l) (i := a.toNat) (by omega)
      have hb2 := nxB_b hr h0
      have hw : IntKind.i64.wrap (nxB l a) = nxB l a := wrap64 (by omega) (by omega)
      rw [hb] at hg
      have h2 : a + 1 ≤ l.length := by omega
      simp only [a_next, u8s_len, hlt, hg, hw, hw1, h0, h2, shfI, List.zipIdx_cons, List.zipIdx_nil, ↓SP, SQ, Gam.add, stepM, callC, argC, lendO, nmBy, nmC, likeL, likeB, plainOb, offs, exL, X, F, trP, trO, stepD, stepW, newA, SV.tr, SV.trL, fz, allP, Ob.tr, loadA, cellsA, SV.cells, binA, binI, eqOut, isSl, isPt, natOf, callee, snap, SV.refsL, SV.refs, thaw, fzAll, loA, hiA, elemOf, partsA, buildA, putCells, ↓reduceIte, reduceCtorEq, okCell, Nat.reduceAdd, Nat.reduceEqDiff, Nat.reduceSub, Nat.reduceMul, Nat.reduceLeDiff, Nat.reduceLT, Nat.reduceBEq, PV.scal, PV.scalL, SV.scal, SV.scalL, Ob.scal, PV.isCell, pure', resO]
      have e1 : nxR l (a, s) = nxB l a := by simp [nxR, h2]
      rw [e1]
      refine finA_gen [] trivial (by simp [retA, rvA, mkE_cons, mk_nil, mkO_cons, mkO_nil, loadA, SV.tr, SV.trL, nmF, rn_nil, rn_cons1, rn_cons2, plainOb, SV.refsL, SV.refs, Ob.refs, X, F, List.range_succ, mkO, setO_mk]; rfl) ?_ ?_ ?_ ?_ ?_ ?_ ?_ <;> simp [nxS, retA, rvA, mkE_cons, mk_nil, mkO_cons, mkO_nil, loadA, SV.tr, SV.trL, nmF, rn_nil, rn_cons1, rn_cons2, plainOb, SV.refsL, SV.refs, Ob.refs, X, F, List.range_succ, mkO, setO_mk]
    · have hb : nxB l a = 0 := by simp [nxB, hlt]
      have hw : IntKind.i64.wrap 0 = 0 := rfl
      have h2 : ¬ a + 1 ≤ l.length := by omega
      simp only [a_next, u8s_len, hlt, hw1, h0, h2, shfI, Int.reduceLT, bitA_and, List.zipIdx_cons, List.zipIdx_nil, ↓SP, SQ, Gam.add, stepM, callC, argC, lendO, nmBy, nmC, likeL, likeB, plainOb, offs, exL, X, F, trP, trO, stepD, stepW, newA, SV.tr, SV.trL, fz, allP, Ob.tr, loadA, cellsA, SV.cells, binA, binI, eqOut, isSl, isPt, natOf, callee, snap, SV.refsL, SV.refs, thaw, fzAll, loA, hiA, elemOf, partsA, buildA, putCells, ↓reduceIte, reduceCtorEq, okCell, Nat.reduceAdd, Nat.reduceEqDiff, Nat.reduceSub, Nat.reduceMul, Nat.reduceLeDiff, Nat.reduceLT, Nat.reduceBEq, PV.scal, PV.scalL, SV.scal, SV.scalL, Ob.scal, PV.isCell, pure', resO]
      have e1 : nxR l (a, s) = IntKind.i64.wrap (andW .u64 ((nxS l (a, s)).fdiv (2 ^ min (Int.toNat 40) IntKind.u64.bits)) 255) := by simp only [nxR, h2, if_false]
      rw [e1]
      refine finA_gen [] trivial (by simp [retA, rvA, mkE_cons, mk_nil, mkO_cons, mkO_nil, loadA, SV.tr, SV.trL, nmF, rn_nil, rn_cons1, rn_cons2, plainOb, SV.refsL, SV.refs, Ob.refs, X, F, List.range_succ, mkO, setO_mk]; rfl) ?_ ?_ ?_ ?_ ?_ ?_ ?_ <;> simp [nxS, hb, retA, rvA, mkE_cons, mk_nil, mkO_cons, mkO_nil, loadA, SV.tr, SV.trL, nmF, rn_nil, rn_cons1, rn_cons2, plainOb, SV.refsL, SV.refs, Ob.refs, X, F, List.range_succ, mkO, setO_mk]
  · have hlt : ¬ a < (([] : List Int).length : Int) := by simp; omega
    have hlt' : ¬ a < ((0 : Nat) : Int) := by omega
    have hw : IntKind.i64.wrap 0 = 0 := rfl
    have hb : nxB [] a = 0 := by simp [nxB]
    have h2' : ¬ a + 1 ≤ ((0 : Nat) : Int) := by omega
    have h2 : ¬ a + 1 ≤ (([] : List Int).length : Int) := by simp; omega
    simp only [a_next, hlt', hw1, h0, h2', shfI, Int.reduceLT, bitA_and, List.zipIdx_cons, List.zipIdx_nil, ↓SP, SQ, Gam.add, stepM, callC, argC, lendO, nmBy, nmC, likeL, likeB, plainOb, offs, exL, X, F, trP, trO, stepD, stepW, newA, SV.tr, SV.trL, fz, allP, Ob.tr, loadA, cellsA, SV.cells, binA, binI, eqOut, isSl, isPt, natOf, callee, snap, SV.refsL, SV.refs, thaw, fzAll, loA, hiA, elemOf, partsA, buildA, putCells, ↓reduceIte, reduceCtorEq, okCell, Nat.reduceAdd, Nat.reduceEqDiff, Nat.reduceSub, Nat.reduceMul, Nat.reduceLeDiff, Nat.reduceLT, Nat.reduceBEq, PV.scal, PV.scalL, SV.scal, SV.scalL, Ob.scal, PV.isCell, pure', resO]
    have e1 : nxR [] (a, s) = IntKind.i64.wrap (andW .u64 ((nxS [] (a, s)).fdiv (2 ^ min (Int.toNat 40) IntKind.u64.bits)) 255) := by simp only [nxR, h2, if_false]
    rw [e1]
    refine finA_gen [] trivial (by simp [retA, rvA, mkE_cons, mk_nil, mkO_cons, mkO_nil, loadA, SV.tr, SV.trL, nmF, rn_nil, rn_cons1, rn_cons2, plainOb, SV.refsL, SV.refs, Ob.refs, X, F, List.range_succ, mkO, setO_mk]; rfl) ?_ ?_ ?_ ?_ ?_ ?_ ?_ <;> simp [nxS, hb, retA, rvA, mkE_cons, mk_nil, mkO_cons, mkO_nil, loadA, SV.tr, SV.trL, nmF, rn_nil, rn_cons1, rn_cons2, plainOb, SV.refsL, SV.refs, Ob.refs, X, F, List.range_succ, mkO, setO_mk]
def pkV (l : List Int) (n : Int) (c : Cu) : Int := if n ≤ 1 then 0 else (nxR l c).tmod n
def pkC (l : List Int) (n : Int) (c : Cu) : Cu := if n ≤ 1 then c else nxC l c
theorem pkV_b {l : List Int} (hl : ∀ x ∈ l, 0 ≤ x ∧ x ≤ 255) {n : Int} {c : Cu} (h0 : 0 ≤ c.1) : 0 ≤ pkV l n c ∧ (pkV l n c < n ∨ pkV l n c = 0) := by
  unfold pkV
  split
  · exact ⟨by omega, .inr rfl⟩
  · have := nxR_b hl h0
    exact ⟨Int.tmod_nonneg _ this.1, .inl (Int.tmod_lt_of_pos _ (by omega))⟩
/-- Where a cursor stands, at most. -/
def CuA (c : Cu) (b : Int) : Prop := 0 ≤ c.1 ∧ c.1 ≤ b
theorem CuA.pk {c : Cu} {b : Int} (h : CuA c b) (l : List Int) (n : Int) : CuA (pkC l n c) (b + 1) := by
  unfold pkC
  split
  · exact ⟨h.1, by have := h.2; omega⟩
  · exact ⟨by have := h.1; simp only [nxC]; omega, by have := h.2; simp only [nxC]; omega⟩
theorem CuA.mono {c : Cu} {b b' : Int} (h : CuA c b) (hb : b ≤ b') : CuA c b' := ⟨h.1, Int.le_trans h.2 hb⟩
/-- Drawn from two bytes. -/
def pkY (l : List Int) (n : Int) (c : Cu) : Int := (nxR l c * 256 + nxR l (nxC l c)).tmod n
def a_pick (f_next : FuncId) : AFn := ⟨2, 
  .seq (.reg [⟨some 4, none, .d (.mv (.c (.int .i64 0)))⟩])
  (.seq (.seq (.reg [⟨some 6, none, .d (.mv (.t 1))⟩,
    ⟨some 7, none, .d (.bin .arith .leq (.t 6) (.c (.int .i64 1)))⟩])
  (.cond (.t 7) (.seq (.reg [⟨some 4, none, .d (.mv (.c (.int .i64 0)))⟩])
   (.ret)) (.skip)))
  (.seq (.reg [⟨some 8, none, .d (.mv (.t 0))⟩,
    ⟨some 9, none, .w (.callL (.f f_next) [(.t 8)] [1000000] 0 false)⟩,
    ⟨some 5, none, .d (.mv (.t 9))⟩])
  (.seq (.seq (.reg [⟨some 10, none, .d (.mv (.t 1))⟩,
    ⟨some 11, none, .d (.bin .arith .gtr (.t 10) (.c (.int .i64 200)))⟩])
  (.cond (.t 11) (.reg [⟨some 12, none, .d (.mv (.t 5))⟩,
     ⟨some 13, none, .d (.bin .arith .mul (.t 12) (.c (.int .i64 256)))⟩,
     ⟨some 14, none, .d (.mv (.t 0))⟩,
     ⟨some 15, none, .w (.callL (.f f_next) [(.t 14)] [1000000] 0 false)⟩,
     ⟨some 16, none, .d (.bin .arith .add (.t 13) (.t 15))⟩,
     ⟨some 5, none, .d (.mv (.t 16))⟩]) (.skip)))
  (.seq (.reg [⟨some 17, none, .d (.mv (.t 5))⟩,
    ⟨some 18, none, .d (.mv (.t 1))⟩,
    ⟨some 19, none, .d (.bin .arith .rem (.t 17) (.t 18))⟩,
    ⟨some 4, none, .d (.mv (.t 19))⟩])
  (.ret))))), [.tmp 4]⟩
def n_pick : Nat → Option Ann := fun d => if d = 9 then some ⟨[1000000], 0, false⟩ else if d = 15 then some ⟨[1000000], 0, false⟩ else none
abbrev k_pick : List Nat := [0, 1, 4, 5, 7, 11]
abbrev o_pick : List Nat := []
def c_pick : Con
  | [.bx 1000000 0, .p (.int .i64 n)], [.box [.p v, .p (.int .i64 a), .p (.int .u64 s)]] => match slU v with
    | some l => if 0 ≤ a ∧ a ≤ 1000 ∧ (n ≤ 200 ∨ n ≤ 5000) then some (.p (.int .i64 (if n ≤ 200 then pkV l n (a, s) else pkY l n (a, s))), [.box [.p v, .p (.int .i64 (if n ≤ 200 then pkC l n (a, s) else nxC l (nxC l (a, s))).1), .p (.int .u64 (if n ≤ 200 then pkC l n (a, s) else nxC l (nxC l (a, s))).2)]], []) else none
    | none => none
  | _, _ => none
theorem s_pick {P : Program} (hm : P.follows .mixedOrders = true) {Γ : Gam} (hΓ : GS P Γ) {n : FuncId} {f_next : FuncId} (is : Is P n (a_pick f_next)) (h_next : Γ f_next = c_next)  : Says P n c_pick := by
  intro args ext r ext' fs h
  unfold c_pick at h
  split at h
  case h_2 => cases h
  rename_i n' v a s
  split at h
  case h_2 => cases h
  rename_i l hv
  split at h
  case isFalse => cases h
  rename_i hc
  obtain ⟨h0, h1, hn⟩ := hc
  simp only [Option.some.injEq, Prod.mk.injEq] at h
  obtain ⟨rfl, rfl, rfl⟩ := h
  refine is.goX hm hΓ k_pick (1000000 :: o_pick) (by simp [a_pick]) (by simp) ?_
  by_cases hle : n' ≤ 1
  · have h200 : n' ≤ 200 := by omega
    have e1 : pkV l n' (a, s) = 0 := by simp [pkV, hle]
    have e2 : pkC l n' (a, s) = (a, s) := by simp [pkC, hle]
    simp only [h200, if_true, e1, e2]
    simp only [a_pick, hle, List.zipIdx_cons, List.zipIdx_nil, ↓SP, SQ, Gam.add, stepM, callC, argC, lendO, nmBy, nmC, likeL, likeB, plainOb, offs, exL, X, F, trP, trO, stepD, stepW, newA, SV.tr, SV.trL, fz, allP, Ob.tr, loadA, cellsA, SV.cells, binA, binI, eqOut, isSl, isPt, natOf, callee, snap, SV.refsL, SV.refs, thaw, fzAll, loA, hiA, elemOf, partsA, buildA, putCells, ↓reduceIte, reduceCtorEq, okCell, Nat.reduceAdd, Nat.reduceEqDiff, Nat.reduceSub, Nat.reduceMul, Nat.reduceLeDiff, Nat.reduceLT, Nat.reduceBEq, PV.scal, PV.scalL, SV.scal, SV.scalL, Ob.scal, PV.isCell, pure', resO]
    refine finA_gen [] trivial (by simp [retA, rvA, mkE_cons, mk_nil, mkO_cons, mkO_nil, loadA, SV.tr, SV.trL, nmF, rn_nil, rn_cons1, rn_cons2, plainOb, SV.refsL, SV.refs, Ob.refs, X, F, List.range_succ, mkO, setO_mk]; rfl) ?_ ?_ ?_ ?_ ?_ ?_ ?_ <;> simp [retA, rvA, mkE_cons, mk_nil, mkO_cons, mkO_nil, loadA, SV.tr, SV.trL, nmF, rn_nil, rn_cons1, rn_cons2, plainOb, SV.refsL, SV.refs, Ob.refs, X, F, List.range_succ, mkO, setO_mk]
  · have h3 : a ≤ 1000000 := by omega
    have hb := nxR_b (slU_out hv).2 (c := (a, s)) h0
    have hz : ¬ n' = 0 := by omega
    by_cases h200 : n' ≤ 200
    · have h2 : ¬ n' > 200 := by omega
      have e1 : pkV l n' (a, s) = (nxR l (a, s)).tmod n' := by simp [pkV, hle]
      have e2 : pkC l n' (a, s) = (a + 1, nxS l (a, s)) := by simp [pkC, nxC, hle]
      simp only [h200, if_true, e1, e2]
      simp only [a_pick, h_next, c_next, hv, hle, h0, h3, h2, hz, List.zipIdx_cons, List.zipIdx_nil, ↓SP, SQ, Gam.add, stepM, callC, argC, lendO, nmBy, nmC, likeL, likeB, plainOb, offs, exL, X, F, trP, trO, stepD, stepW, newA, SV.tr, SV.trL, fz, allP, Ob.tr, loadA, cellsA, SV.cells, binA, binI, eqOut, isSl, isPt, natOf, callee, snap, SV.refsL, SV.refs, thaw, fzAll, loA, hiA, elemOf, partsA, buildA, putCells, ↓reduceIte, reduceCtorEq, okCell, Nat.reduceAdd, Nat.reduceEqDiff, Nat.reduceSub, Nat.reduceMul, Nat.reduceLeDiff, Nat.reduceLT, Nat.reduceBEq, PV.scal, PV.scalL, SV.scal, SV.scalL, Ob.scal, PV.isCell, pure', resO]
      refine finA_gen [] trivial (by simp [retA, rvA, mkE_cons, mk_nil, mkO_cons, mkO_nil, loadA, SV.tr, SV.trL, nmF, rn_nil, rn_cons1, rn_cons2, plainOb, SV.refsL, SV.refs, Ob.refs, X, F, List.range_succ, mkO, setO_mk]; rfl) ?_ ?_ ?_ ?_ ?_ ?_ ?_ <;> simp [retA, rvA, mkE_cons, mk_nil, mkO_cons, mkO_nil, loadA, SV.tr, SV.trL, nmF, rn_nil, rn_cons1, rn_cons2, plainOb, SV.refsL, SV.refs, Ob.refs, X, F, List.range_succ, mkO, setO_mk]
    · have h2 : n' > 200 := by omega
      have hb2 := nxR_b (slU_out hv).2 (c := nxC l (a, s)) (by simp only [nxC]; omega)
      have h4 : 0 ≤ a + 1 := by omega
      have h5 : a + 1 ≤ 1000000 := by omega
      have e1 : pkY l n' (a, s) = (nxR l (a, s) * 256 + nxR l (a + 1, nxS l (a, s))).tmod n' := rfl
      have e2 : nxC l (nxC l (a, s)) = (a + 1 + 1, nxS l (a + 1, nxS l (a, s))) := rfl
      have hcx : nxC l (a, s) = (a + 1, nxS l (a, s)) := rfl
      rw [hcx] at hb2
      have w1 : IntKind.i64.wrap (nxR l (a, s) * 256) = nxR l (a, s) * 256 := wrap64 (by omega) (by omega)
      have w2 : IntKind.i64.wrap (nxR l (a, s) * 256 + nxR l (a + 1, nxS l (a, s))) = nxR l (a, s) * 256 + nxR l (a + 1, nxS l (a, s)) := wrap64 (by omega) (by omega)
      simp only [h200, if_false, e1, e2]
      simp only [a_pick, h_next, c_next, hv, hle, h0, h3, h4, h5, h2, hz, w1, w2, List.zipIdx_cons, List.zipIdx_nil, ↓SP, SQ, Gam.add, stepM, callC, argC, lendO, nmBy, nmC, likeL, likeB, plainOb, offs, exL, X, F, trP, trO, stepD, stepW, newA, SV.tr, SV.trL, fz, allP, Ob.tr, loadA, cellsA, SV.cells, binA, binI, eqOut, isSl, isPt, natOf, callee, snap, SV.refsL, SV.refs, thaw, fzAll, loA, hiA, elemOf, partsA, buildA, putCells, ↓reduceIte, reduceCtorEq, okCell, Nat.reduceAdd, Nat.reduceEqDiff, Nat.reduceSub, Nat.reduceMul, Nat.reduceLeDiff, Nat.reduceLT, Nat.reduceBEq, PV.scal, PV.scalL, SV.scal, SV.scalL, Ob.scal, PV.isCell, pure', resO]
      refine finA_gen [] trivial (by simp [retA, rvA, mkE_cons, mk_nil, mkO_cons, mkO_nil, loadA, SV.tr, SV.trL, nmF, rn_nil, rn_cons1, rn_cons2, plainOb, SV.refsL, SV.refs, Ob.refs, X, F, List.range_succ, mkO, setO_mk]; rfl) ?_ ?_ ?_ ?_ ?_ ?_ ?_ <;> simp [retA, rvA, mkE_cons, mk_nil, mkO_cons, mkO_nil, loadA, SV.tr, SV.trL, nmF, rn_nil, rn_cons1, rn_cons2, plainOb, SV.refsL, SV.refs, Ob.refs, X, F, List.range_succ, mkO, setO_mk]
def a_one (f_pick : FuncId) : AFn := ⟨2, 
  .seq (.reg [⟨some 4, none, .d (.mv (.c (.bool false)))⟩])
  (.seq (.reg [⟨some 5, none, .d (.mv (.t 0))⟩,
    ⟨some 6, none, .d (.mv (.t 1))⟩,
    ⟨some 7, none, .w (.callL (.f f_pick) [(.t 5), (.t 6)] [1000000] 0 false)⟩,
    ⟨some 8, none, .d (.bin .arith .eql (.t 7) (.c (.int .i64 0)))⟩,
    ⟨some 4, none, .d (.mv (.t 8))⟩])
  (.ret)), [.tmp 4]⟩
def n_one : Nat → Option Ann := fun d => if d = 7 then some ⟨[1000000], 0, false⟩ else none
abbrev k_one : List Nat := [0, 1, 4]
abbrev o_one : List Nat := []
def c_one : Con
  | [.bx 1000000 0, .p (.int .i64 n)], [.box [.p v, .p (.int .i64 a), .p (.int .u64 s)]] => match slU v with
    | some l => if 0 ≤ a ∧ a ≤ 1000 ∧ n ≤ 200 then some (.p (.bool (pkV l n (a, s) == 0)), [.box [.p v, .p (.int .i64 (pkC l n (a, s)).1), .p (.int .u64 (pkC l n (a, s)).2)]], []) else none
    | none => none
  | _, _ => none
theorem s_one {P : Program} (hm : P.follows .mixedOrders = true) {Γ : Gam} (hΓ : GS P Γ) {n : FuncId} {f_pick : FuncId} (is : Is P n (a_one f_pick)) (h_pick : Γ f_pick = c_pick)  : Says P n c_one := by
  intro args ext r ext' fs h
  unfold c_one at h
  split at h
  case h_2 => cases h
  rename_i n' v a s
  split at h
  case h_2 => cases h
  rename_i l hv
  split at h
  case isFalse => cases h
  rename_i hc
  obtain ⟨h0, h1, hn⟩ := hc
  simp only [Option.some.injEq, Prod.mk.injEq] at h
  obtain ⟨rfl, rfl, rfl⟩ := h
  refine is.goX hm hΓ k_one (1000000 :: o_one) (by simp [a_one]) (by simp) ?_
  simp only [a_one, h_pick, c_pick, hv, h0, h1, hn, List.zipIdx_cons, List.zipIdx_nil, ↓SP, SQ, Gam.add, stepM, callC, argC, lendO, nmBy, nmC, likeL, likeB, plainOb, offs, exL, X, F, trP, trO, stepD, stepW, newA, SV.tr, SV.trL, fz, allP, Ob.tr, loadA, cellsA, SV.cells, binA, binI, eqOut, isSl, isPt, natOf, callee, snap, SV.refsL, SV.refs, thaw, fzAll, loA, hiA, elemOf, partsA, buildA, putCells, ↓reduceIte, reduceCtorEq, okCell, Nat.reduceAdd, Nat.reduceEqDiff, Nat.reduceSub, Nat.reduceMul, Nat.reduceLeDiff, Nat.reduceLT, Nat.reduceBEq, PV.scal, PV.scalL, SV.scal, SV.scalL, Ob.scal, PV.isCell, pure', resO]
  refine finA_gen [] trivial (by simp [retA, rvA, mkE_cons, mk_nil, mkO_cons, mkO_nil, loadA, SV.tr, SV.trL, nmF, rn_nil, rn_cons1, rn_cons2, plainOb, SV.refsL, SV.refs, Ob.refs, X, F, List.range_succ, mkO, setO_mk]; rfl) ?_ ?_ ?_ ?_ ?_ ?_ ?_ <;> simp [retA, rvA, mkE_cons, mk_nil, mkO_cons, mkO_nil, loadA, SV.tr, SV.trL, nmF, rn_nil, rn_cons1, rn_cons2, plainOb, SV.refsL, SV.refs, Ob.refs, X, F, List.range_succ, mkO, setO_mk]
abbrev By := {n : Int // 0 ≤ n ∧ n ≤ 255}
instance : Inhabited By := ⟨⟨0, by omega⟩⟩
def byE (n : By) : PV := .int .u8 n.1
theorem slU_bys (l : List By) : slU (.sl 1 (l.map byE)) = some (l.map Subtype.val) := by
  have h1 : (l.map byE).all isU = true := by
    simp only [List.all_map, List.all_eq_true, Function.comp_def, byE, isU]
    intro x _
    have := x.2
    simp [this.1, this.2]
  simp only [slU, h1, if_true]
  simp [ofU, byE, Function.comp_def]
theorem open_bytes' {H : Type} {enc : TypeId × Value → H} {P : Program} {W : World} {sp : Nat → Bool} {b0 : Nat} {t e : TypeId} (ht : P.underlying t = some (.slice e)) (he : P.underlying e = some (.int .u8)) (hc : P.cellsOf e = 1) {v : Value} {fuel : Nat} {x : DataW H × List MemPlace} (hval : Cell.okWide P W .any b0 t v)
    (h : DataW.trod enc P W 0 sp true fuel t [v] = some x) : ∃ (pv : PV) (l : List Int), slU pv = some l ∧ l.length ≤ 9223372036854775807 ∧ PR W (All W) pv v := by
  rcases open_sl (α := By) (φ := byE) (fun _ => rfl) ht hc (fun cs y n hy hcl => by
    obtain ⟨c, rfl⟩ : ∃ c, cs = [c] := List.length_eq_one_iff.1 hcl
    obtain ⟨m, h1, _, w⟩ := DataW.trod_int he hy
    injection h1 with h1; subst h1
    simp only [Lit.wf, Bool.and_eq_true, decide_eq_true_eq] at w
    have w1 : (0 : Int) ≤ m := w.1
    have w2 : m ≤ 255 := w.2
    exact ⟨⟨m, w1, w2⟩, fun i hi => by simp [byE, PV.cells] at hi; subst hi; exact .int _ _⟩) hval h with ⟨l, hl, hp⟩ | hv
  · exact ⟨.sl 1 (l.map byE), l.map Subtype.val, slU_bys l, by simpa using hl, hp⟩
  · exact ⟨.nilsl, [], rfl, by simp, by rw [hv]; exact .nilsl⟩
theorem open_bytesV {H : Type} {enc : TypeId × Value → H} {P : Program} {W : World} {sp : Nat → Bool} {b0 : Nat} {t e : TypeId} (ht : P.underlying t = some (.slice e)) (he : P.underlying e = some (.int .u8)) (hc : P.cellsOf e = 1) {v : Value} {d : DataW H} {p : List MemPlace} (hv : Value.okWide P W .any b0 t v)
    (h : DataW.Trod enc P W 0 sp true t v d p) : ∃ (pv : PV) (l : List Int), slU pv = some l ∧ l.length ≤ 9223372036854775807 ∧ PR W (All W) pv v := by
  obtain ⟨fuel, hf⟩ := trod_slice_cells ht hv h
  exact open_bytes' ht he hc (cell_slice ht hv) hf
theorem cuEta (c : Cu) : (c.1, c.2) = c := rfl
theorem slU_cells {v : PV} {l : List Int} (h : slU v = some l) : v.cells = [v] := by
  rcases (slU_out h).1 with rfl | ⟨rfl, rfl⟩ <;> rfl
theorem slU_isCell {v : PV} {l : List Int} (h : slU v = some l) : v.isCell = true := by
  rcases (slU_out h).1 with rfl | ⟨rfl, rfl⟩ <;> rfl
theorem cu0 (b : Int) (hb : 0 ≤ b) : CuA (0, 0) b := ⟨Int.le_refl _, hb⟩
def a_vBig : AFn := ⟨1, 
  .seq (.reg [⟨some 2, none, .d (.mv (.c (.bool false)))⟩])
  (.seq (.reg [⟨some 3, none, .d (.mv (.t 0))⟩,
    ⟨some 4, none, .d (.len (.t 3))⟩,
    ⟨some 5, none, .d (.bin .arith .gtr (.t 4) (.c (.int .i64 65536)))⟩,
    ⟨some 2, none, .d (.mv (.t 5))⟩])
  (.ret)), [.tmp 2]⟩
def n_vBig : Nat → Option Ann := fun _ => none
abbrev k_vBig : List Nat := [0, 2]
abbrev o_vBig : List Nat := []
def c_vBig : Con := pure' fun
  | [.p v] => match slU v with
    | some l => some (.p (.bool (decide (l.length > 65536))), [])
    | none => none
  | _ => none
theorem slU_len' {v : PV} {l : List Int} (h : slU v = some l) (O : Objs) : lenA O (.p v) = some l.length := by
  rcases (slU_out h).1 with rfl | ⟨rfl, rfl⟩
  · simp [lenA, u8s_len]
  · simp [lenA]
theorem s_vBig {P : Program} (hm : P.follows .mixedOrders = true) {Γ : Gam} (hΓ : GS P Γ) {n : FuncId} (is : Is P n a_vBig)  : Says P n c_vBig := by
  refine Says.pure fun args r fs h => ?_
  split at h
  case h_2 => cases h
  rename_i v
  split at h
  case h_2 => cases h
  rename_i l hv
  simp only [Option.some.injEq, Prod.mk.injEq] at h
  obtain ⟨rfl, rfl⟩ := h
  have hlv := slU_len' hv
  by_cases hk : l.length > 65536
  · have h2 : (l.length : Int) > 65536 := by omega
    refine is.go hm hΓ k_vBig o_vBig (by simp [a_vBig]) ?_
    simp only [a_vBig, hlv, h2, List.zipIdx_cons, List.zipIdx_nil, ↓SP, SQ, Gam.add, stepM, callC, argC, lendO, nmBy, nmC, likeL, likeB, plainOb, offs, exL, X, F, trP, trO, stepD, stepW, newA, SV.tr, SV.trL, fz, allP, Ob.tr, loadA, cellsA, SV.cells, binA, binI, eqOut, isSl, isPt, natOf, callee, snap, SV.refsL, SV.refs, thaw, fzAll, loA, hiA, elemOf, partsA, buildA, putCells, ↓reduceIte, reduceCtorEq, okCell, Nat.reduceAdd, Nat.reduceEqDiff, Nat.reduceSub, Nat.reduceMul, Nat.reduceLeDiff, Nat.reduceLT, Nat.reduceBEq, PV.scal, PV.scalL, SV.scal, SV.scalL, Ob.scal, PV.isCell, pure', resO]
    exact finA_val (by simp [hk, retA, rvA, mkE_cons, mk_nil, mkO_cons, mkO_nil, loadA, SV.tr, SV.trL, nmF, rn_nil, rn_cons1, rn_cons2, plainOb, SV.refsL, SV.refs, Ob.refs, X, F, List.range_succ, mkO, setO_mk]) (by simp [SV.tr, SV.trL])
  · have h2 : ¬ (l.length : Int) > 65536 := by omega
    refine is.go hm hΓ k_vBig o_vBig (by simp [a_vBig]) ?_
    simp only [a_vBig, hlv, h2, List.zipIdx_cons, List.zipIdx_nil, ↓SP, SQ, Gam.add, stepM, callC, argC, lendO, nmBy, nmC, likeL, likeB, plainOb, offs, exL, X, F, trP, trO, stepD, stepW, newA, SV.tr, SV.trL, fz, allP, Ob.tr, loadA, cellsA, SV.cells, binA, binI, eqOut, isSl, isPt, natOf, callee, snap, SV.refsL, SV.refs, thaw, fzAll, loA, hiA, elemOf, partsA, buildA, putCells, ↓reduceIte, reduceCtorEq, okCell, Nat.reduceAdd, Nat.reduceEqDiff, Nat.reduceSub, Nat.reduceMul, Nat.reduceLeDiff, Nat.reduceLT, Nat.reduceBEq, PV.scal, PV.scalL, SV.scal, SV.scalL, Ob.scal, PV.isCell, pure', resO]
    exact finA_val (by simp [hk, retA, rvA, mkE_cons, mk_nil, mkO_cons, mkO_nil, loadA, SV.tr, SV.trL, nmF, rn_nil, rn_cons1, rn_cons2, plainOb, SV.refsL, SV.refs, Ob.refs, X, F, List.range_succ, mkO, setO_mk]) (by simp [SV.tr, SV.trL])
def strs (l : List ByteArray) : List PV := l.map .str
def isS1 : PV → Bool
  | .str _ => true
  | _ => false
def isStr (xs : List PV) : Bool := xs.all isS1
def ofS1 : PV → ByteArray
  | .str s => s
  | _ => ⟨#[]⟩
def ofSt (xs : List PV) : List ByteArray := xs.map ofS1
theorem isStr_out : ∀ {xs : List PV}, isStr xs = true → ∃ l, xs = strs l
  | [], _ => ⟨[], rfl⟩
  | x :: r, h => by
    simp only [isStr, List.all_cons, Bool.and_eq_true] at h
    obtain ⟨l, hl⟩ := isStr_out (xs := r) h.2
    have h1 := h.1
    unfold isS1 at h1
    split at h1
    · rename_i s
      exact ⟨s :: l, by rw [hl]; rfl⟩
    · cases h1
theorem ofSt_strs (l : List ByteArray) : ofSt (strs l) = l := by
  induction l with
  | nil => rfl
  | cons a l ih => simpa [ofSt, strs, ofS1] using ih
theorem isStr_strs (l : List ByteArray) : isStr (strs l) = true := by
  induction l with
  | nil => rfl
  | cons a l ih => simp [isStr, strs, isS1]
theorem strs_len (l : List ByteArray) : (strs l).length = l.length := by simp [strs]
theorem strs_get {l : List ByteArray} {i : Nat} (h : i < l.length) : (strs l)[i]? = some (.str (l.getD i ⟨#[]⟩)) := by simp [strs, h]
theorem strs_flat (l : List ByteArray) : flat (strs l) = strs l := by
  induction l with
  | nil => rfl
  | cons a l ih => simpa [flat, strs, PV.cells] using ih
def c_IndexByte : Con := pure' fun
  | [.p (.str s), .p (.int .u8 c)] => some (.p (.int .i64 (Lib.indexByte s.data.toList c.toNat.toUInt8)), [])
  | _ => none
def jnB (l : List ByteArray) (sep : ByteArray) : ByteArray := ⟨(Lib.join (l.map (·.data.toList)) sep.data.toList).toArray⟩
def c_Join : Con := pure' fun
  | [.p (.sl 1 xs), .p (.str sep)] => if isStr xs = true ∧ xs.length ≤ 5000 ∧ (jnB (ofSt xs) sep).size ≤ 5000 then some (.p (.str (jnB (ofSt xs) sep)), []) else none
  | _ => none
theorem pc_str {P : Program} {f : FuncId} (hc : callable P f) {args : List SV} {r : PV} (hr : ∀ w S x, r.scal = true → PR w S r x → True)
    (h : ∀ (w : World) (S : Nat → Prop) (vals : Array Value), vals.size = args.length → (∀ i (hi : i < args.length), ∃ β, SR w S β (resO [] []) args[i] (vals.getD i undef)) → (∀ b, S b → b < w.heap.size) →
      Calls P f vals w fun e w' => ∃ x, e = .returned x ∧ Go.RowKit.Below w.heap.size w w' ∧ ∀ w'' S'', PR w'' S'' r x) : PC P f args [] (.p r) [] [] := by
  refine ⟨hc, fun w S β vals hrel hsz hv => ?_⟩
  refine (h w S vals hsz (fun i hi => ⟨β, hv i hi⟩) fun b hb => (hrel.sep b hb).1).mono fun e w' ⟨x, he, hb, hx⟩ => ⟨x, S, β, he, Fr.of hb.os hb.tape hb.output hb.size fun b hlt => hb.block b hlt, fun b h => h, fun b h => .inl h, fun i hi => by simp at hi, fun j hj => by simp at hj, rfl, ?_, .p _ _ (hx _ _)⟩
  rw [resG_nil]
  exact Rel.empty fun b hS => Nat.lt_of_lt_of_le (hrel.sep b hS).1 hb.size
theorem says_IndexByte {P : Program} {f : FuncId} (hc : callable P f) (h : ∀ (s : ByteArray) (c : Int) (w : World), Calls P f #[.string s, .int .u8 c] w fun e w' => e = .returned (.int .i64 (Lib.indexByte s.data.toList c.toNat.toUInt8)) ∧ w' = w) : Says P f c_IndexByte := by
  refine Says.pure fun args r fs he => ?_
  split at he
  case h_2 => cases he
  rename_i s c
  simp only [Option.some.injEq, Prod.mk.injEq] at he
  obtain ⟨rfl, rfl⟩ := he
  refine pc_str hc (fun _ _ _ _ _ => trivial) fun w S vals hsz hv _ => ?_
  obtain ⟨β0, e0⟩ := hv 0 (by simp)
  obtain ⟨β1, e1⟩ := hv 1 (by simp)
  simp only [List.getElem_cons_zero, List.getElem_cons_succ] at e0 e1
  have e0 := e0.p_inv; have e1 := e1.p_inv
  have hvals : vals = #[.string s, .int .u8 c] := by
    apply Array.ext
    · simpa using hsz
    · intro i h1 h2
      have : i = 0 ∨ i = 1 := by simp at h2; omega
      rcases this with rfl | rfl
      · cases e0' : vals.getD 0 undef with
        | _ => rw [e0'] at e0; cases e0 <;> (have := e0'; simp [Array.getD, h1] at this; simp [this])
      · cases e1' : vals.getD 1 undef with
        | _ => rw [e1'] at e1; cases e1 <;> (have := e1'; simp [Array.getD, h1] at this; simp [this])
  rw [hvals]
  exact (h s c w).mono fun e w' ⟨he, hw⟩ => ⟨_, he, hw ▸ Go.RowKit.Below.refl _ _, fun _ _ => .int _ _⟩
theorem says_Join {P : Program} {f : FuncId} (hc : callable P f) (h : ∀ (bk o c : Nat) (xs : List ByteArray) (sep : ByteArray) (w : World) (_ : ∀ (j : Nat) x, xs[j]? = some x → w.cell? ⟨bk, o + j, none⟩ = some (.string x))
    (_ : bk < w.heap.size) (_ : xs.length ≤ 140737488355328) (_ : xs.length ≤ c) (_ : (Lib.join (xs.map (·.data.toList)) sep.data.toList).length ≤ 140737488355328),
    Calls P f #[.slice (some ⟨bk, o, none⟩) xs.length c, .string sep] w fun e w' => e = .returned (.string ⟨(Lib.join (xs.map (·.data.toList)) sep.data.toList).toArray⟩) ∧ Go.RowKit.Below w.heap.size w w') : Says P f c_Join := by
  refine Says.pure fun args r fs he => ?_
  split at he
  case h_2 => cases he
  rename_i xs sep
  split at he
  case isFalse => cases he
  rename_i hcond
  obtain ⟨hst, hn, hlen⟩ := hcond
  obtain ⟨l, rfl⟩ := isStr_out hst
  simp only [Option.some.injEq, Prod.mk.injEq, ofSt_strs, strs_len] at he hn hlen
  obtain ⟨rfl, rfl⟩ := he
  refine pc_str hc (fun _ _ _ _ _ => trivial) fun w S vals hsz hv hS => ?_
  obtain ⟨β0, e0⟩ := hv 0 (by simp)
  obtain ⟨β1, e1⟩ := hv 1 (by simp)
  simp only [List.getElem_cons_zero, List.getElem_cons_succ] at e0 e1
  obtain ⟨b, off, cap, vs, ex, hcap, hSb, _, hcell, hel⟩ := e0.p_inv.sl_inv'
  have e1 := e1.p_inv
  simp only [strs_flat, strs_len] at hcell hel ex hcap
  have hvals : vals = #[.slice (some ⟨b, off, none⟩) l.length cap, .string sep] := by
    apply Array.ext
    · simpa using hsz
    · intro i h1 h2
      have : i = 0 ∨ i = 1 := by simp at h2; omega
      rcases this with rfl | rfl
      · have := ex; simp [Array.getD, h1] at this; simp [this]
      · cases e1' : vals.getD 1 undef with
        | _ => rw [e1'] at e1; cases e1 <;> (have := e1'; simp [Array.getD, h1] at this; simp [this])
  rw [hvals]
  refine (h b off cap l sep w (fun j x hj => ?_) (hS b hSb) (by omega) hcap ?_).mono fun e w' ⟨he, hw⟩ => ⟨_, he, hw, fun _ _ => .str _⟩
  · have hlt : j < l.length := by
      rw [List.getElem?_eq_some_iff] at hj; exact hj.1
    have h1 := hcell j hlt
    have h2 := hel j (by simpa [strs_len] using hlt)
    have h3 : (strs l)[j]'(by simpa [strs_len] using hlt) = .str x := by
      have := strs_get hlt
      rw [List.getElem?_eq_getElem (by simpa [strs_len] using hlt)] at this
      injection this with this
      rw [this]
      simp [List.getD, hj]
    rw [h3] at h2
    rw [h1]
    generalize vs j = y at h2
    cases h2
    rfl
  · have := hlen
    simp only [jnB, ByteArray.size, List.size_toArray] at this
    omega
def amS (l : List Int) (ss : List ByteArray) (c : Cu) : ByteArray := ss.getD (pkV l ss.length c).toNat ⟨#[]⟩
theorem amS_mem {l : List Int} {ss : List ByteArray} (hl : ∀ x ∈ l, 0 ≤ x ∧ x ≤ 255) {c : Cu} (h0 : 0 ≤ c.1) (hx : 1 ≤ ss.length) : amS l ss c ∈ ss := by
  have hb := pkV_b hl (n := (ss.length : Int)) (c := c) h0
  have hlt : (pkV l (ss.length : Int) c).toNat < ss.length := by omega
  unfold amS
  rw [show ss.getD (pkV l (ss.length : Int) c).toNat ⟨#[]⟩ = ss[(pkV l (ss.length : Int) c).toNat] by simp [hlt]]
  exact List.getElem_mem _
def a_ofT (f_pick : FuncId) : AFn := ⟨2, 
  .seq (.reg [⟨some 4, none, .d (.mv (.c (.str ⟨#[]⟩)))⟩])
  (.seq (.reg [⟨some 5, none, .d (.mv (.t 1))⟩,
    ⟨some 6, none, .d (.mv (.t 0))⟩,
    ⟨some 7, none, .d (.mv (.t 1))⟩,
    ⟨some 8, none, .d (.len (.t 7))⟩,
    ⟨some 9, none, .w (.callL (.f f_pick) [(.t 6), (.t 8)] [1000000] 0 false)⟩,
    ⟨some 10, none, .d (.ia 1 (.t 5) (.t 9))⟩,
    ⟨some 11, none, .d (.load false 1 (.t 10))⟩,
    ⟨some 4, none, .d (.mv (.t 11))⟩])
  (.ret)), [.tmp 4]⟩
def n_ofT : Nat → Option Ann := fun d => if d = 9 then some ⟨[1000000], 0, false⟩ else none
abbrev k_ofT : List Nat := [0, 1, 4]
abbrev o_ofT : List Nat := []
def c_ofT : Con
  | [.bx 1000000 0, .p (.sl 1 xs)], [.box [.p v, .p (.int .i64 a), .p (.int .u64 s)]] => match slU v with
    | some l => if 0 ≤ a ∧ a ≤ 1000 ∧ 1 ≤ xs.length ∧ xs.length ≤ 200 ∧ isStr xs = true then some (.p (.str (amS l (ofSt xs) (a, s))), [.box [.p v, .p (.int .i64 (pkC l xs.length (a, s)).1), .p (.int .u64 (pkC l xs.length (a, s)).2)]], []) else none
    | none => none
  | _, _ => none
theorem s_ofT {P : Program} (hm : P.follows .mixedOrders = true) {Γ : Gam} (hΓ : GS P Γ) {n : FuncId} {f_pick : FuncId} (is : Is P n (a_ofT f_pick)) (h_pick : Γ f_pick = c_pick)  : Says P n c_ofT := by
  intro args ext r ext' fs h
  unfold c_ofT at h
  split at h
  case h_2 => cases h
  rename_i xs v a s
  split at h
  case h_2 => cases h
  rename_i l hv
  split at h
  case isFalse => cases h
  rename_i hc
  obtain ⟨h0, h1, hl1, hl2, hi⟩ := hc
  obtain ⟨xs, rfl⟩ := isStr_out hi
  simp only [Option.some.injEq, Prod.mk.injEq, ofSt_strs, strs_len] at h hl1 hl2
  obtain ⟨rfl, rfl, rfl⟩ := h
  have hb := pkV_b (slU_out hv).2 (n := (xs.length : Int)) (c := (a, s)) h0
  have hn : (xs.length : Int) ≤ 200 := by omega
  have hb0 := hb.1
  have hg := strs_get (l := xs) (i := (pkV l (xs.length : Int) (a, s)).toNat) (by omega)
  refine is.goX hm hΓ k_ofT (1000000 :: o_ofT) (by simp [a_ofT]) (by simp) ?_
  simp only [a_ofT, h_pick, c_pick, hv, h0, h1, hn, hb0, hg, strs_len, List.zipIdx_cons, List.zipIdx_nil, ↓SP, SQ, Gam.add, stepM, callC, argC, lendO, nmBy, nmC, likeL, likeB, plainOb, offs, exL, X, F, trP, trO, stepD, stepW, newA, SV.tr, SV.trL, fz, allP, Ob.tr, loadA, cellsA, SV.cells, binA, binI, eqOut, isSl, isPt, natOf, callee, snap, SV.refsL, SV.refs, thaw, fzAll, loA, hiA, elemOf, partsA, buildA, putCells, ↓reduceIte, reduceCtorEq, okCell, Nat.reduceAdd, Nat.reduceEqDiff, Nat.reduceSub, Nat.reduceMul, Nat.reduceLeDiff, Nat.reduceLT, Nat.reduceBEq, PV.scal, PV.scalL, SV.scal, SV.scalL, Ob.scal, PV.isCell, pure', resO]
  refine finA_gen [] trivial (by simp [retA, rvA, mkE_cons, mk_nil, mkO_cons, mkO_nil, loadA, SV.tr, SV.trL, nmF, rn_nil, rn_cons1, rn_cons2, plainOb, SV.refsL, SV.refs, Ob.refs, X, F, List.range_succ, mkO, setO_mk]; rfl) ?_ ?_ ?_ ?_ ?_ ?_ ?_ <;> simp [amS, retA, rvA, mkE_cons, mk_nil, mkO_cons, mkO_nil, loadA, SV.tr, SV.trL, nmF, rn_nil, rn_cons1, rn_cons2, plainOb, SV.refsL, SV.refs, Ob.refs, X, F, List.range_succ, mkO, setO_mk]
def anL : List ByteArray := [⟨#[]⟩, ⟨#[97]⟩, ⟨#[97, 44, 98]⟩, ⟨#[115, 111, 109, 101, 32, 119, 111, 114, 100, 115]⟩, ⟨#[120, 35, 121]⟩, ⟨#[45, 49, 50]⟩, ⟨#[0, 255]⟩, ⟨#[44, 44]⟩, ⟨#[48]⟩]
def a_any1 (f_ofT : FuncId) : AFn := ⟨1, 
  .seq (.reg [⟨some 2, none, .d (.mv (.c (.str ⟨#[]⟩)))⟩])
  (.seq (.reg [⟨some 3, none, .d (.mv (.t 0))⟩,
    ⟨some 4, none, .w (.bslice 1 [.str ⟨#[]⟩, .str ⟨#[]⟩, .str ⟨#[]⟩, .str ⟨#[]⟩, .str ⟨#[]⟩, .str ⟨#[]⟩, .str ⟨#[]⟩, .str ⟨#[]⟩, .str ⟨#[]⟩] [(0, (.c (.str ⟨#[]⟩))), (1, (.c (.str ⟨#[97]⟩))), (2, (.c (.str ⟨#[97, 44, 98]⟩))), (3, (.c (.str ⟨#[115, 111, 109, 101, 32, 119, 111, 114, 100, 115]⟩))), (4, (.c (.str ⟨#[120, 35, 121]⟩))), (5, (.c (.str ⟨#[45, 49, 50]⟩))), (6, (.c (.str ⟨#[0, 255]⟩))), (7, (.c (.str ⟨#[44, 44]⟩))), (8, (.c (.str ⟨#[48]⟩)))])⟩,
    ⟨some 5, none, .w (.callL (.f f_ofT) [(.t 3), (.t 4)] [1000000] 0 true)⟩,
    ⟨some 2, none, .d (.mv (.t 5))⟩])
  (.ret)), [.tmp 2]⟩
def n_any1 : Nat → Option Ann := fun d => if d = 5 then some ⟨[1000000], 0, true⟩ else none
abbrev k_any1 : List Nat := [0, 2]
abbrev o_any1 : List Nat := [4]
def c_any1 : Con
  | [.bx 1000000 0], [.box [.p v, .p (.int .i64 a), .p (.int .u64 s)]] => match slU v with
    | some l => if 0 ≤ a ∧ a ≤ 1000 then some (.p (.str (amS l anL (a, s))), [.box [.p v, .p (.int .i64 (pkC l 9 (a, s)).1), .p (.int .u64 (pkC l 9 (a, s)).2)]], []) else none
    | none => none
  | _, _ => none
theorem s_any1 {P : Program} (hm : P.follows .mixedOrders = true) {Γ : Gam} (hΓ : GS P Γ) {n : FuncId} {f_ofT : FuncId} (is : Is P n (a_any1 f_ofT)) (h_ofT : Γ f_ofT = c_ofT)  : Says P n c_any1 := by
  intro args ext r ext' fs h
  unfold c_any1 at h
  split at h
  case h_2 => cases h
  rename_i v a s
  split at h
  case h_2 => cases h
  rename_i l hv
  split at h
  case isFalse => cases h
  rename_i hc
  obtain ⟨h0, h1⟩ := hc
  simp only [Option.some.injEq, Prod.mk.injEq] at h
  obtain ⟨rfl, rfl, rfl⟩ := h
  refine is.goX hm hΓ k_any1 (1000000 :: o_any1) (by simp [a_any1]) (by simp) ?_
  simp only [a_any1, h_ofT, c_ofT, hv, h0, h1, isStr, isS1, ofSt, ofS1, List.zipIdx_cons, List.zipIdx_nil, ↓SP, SQ, Gam.add, stepM, callC, argC, lendO, nmBy, nmC, likeL, likeB, plainOb, offs, exL, X, F, trP, trO, stepD, stepW, newA, SV.tr, SV.trL, fz, allP, Ob.tr, loadA, cellsA, SV.cells, binA, binI, eqOut, isSl, isPt, natOf, callee, snap, SV.refsL, SV.refs, thaw, fzAll, loA, hiA, elemOf, partsA, buildA, putCells, ↓reduceIte, reduceCtorEq, okCell, Nat.reduceAdd, Nat.reduceEqDiff, Nat.reduceSub, Nat.reduceMul, Nat.reduceLeDiff, Nat.reduceLT, Nat.reduceBEq, PV.scal, PV.scalL, SV.scal, SV.scalL, Ob.scal, PV.isCell, pure', resO]
  refine finA_gen [] trivial (by simp [retA, rvA, mkE_cons, mk_nil, mkO_cons, mkO_nil, loadA, SV.tr, SV.trL, nmF, rn_nil, rn_cons1, rn_cons2, plainOb, SV.refsL, SV.refs, Ob.refs, X, F, List.range_succ, mkO, setO_mk]; rfl) ?_ ?_ ?_ ?_ ?_ ?_ ?_ <;> simp [anL, retA, rvA, mkE_cons, mk_nil, mkO_cons, mkO_nil, loadA, SV.tr, SV.trL, nmF, rn_nil, rn_cons1, rn_cons2, plainOb, SV.refsL, SV.refs, Ob.refs, X, F, List.range_succ, mkO, setO_mk]
def spL : List ByteArray := [⟨#[44]⟩, ⟨#[44]⟩, ⟨#[32]⟩, ⟨#[]⟩, ⟨#[44, 44]⟩]
def lsA (l : List Int) : ByteArray := amS l anL (0, 0)
def lsB (l : List Int) : ByteArray := amS l anL (pkC l 9 (0, 0))
def ssB (l : List Int) : ByteArray := amS l spL (pkC l 9 (0, 0))
def a_DrawSplitString (f_any1 : FuncId) (f_ofT : FuncId) : AFn := ⟨1, 
  .seq (.reg [⟨some 2, none, .d (.mv (.c (.str ⟨#[]⟩)))⟩,
    ⟨some 3, none, .d (.mv (.c (.str ⟨#[]⟩)))⟩])
  (.seq (.reg [⟨some 6, none, .d (.mv (.t 0))⟩,
    ⟨some 7, none, .d (.build [.nilsl, .int .i64 0, .int .u64 0] [(0, 1, (.t 6))])⟩,
    ⟨some 8, none, .w (.box 3 (.t 7))⟩,
    ⟨some 4, none, .d (.mv (.t 8))⟩])
  (.seq (.reg [⟨some 9, none, .d (.mv (.t 4))⟩,
    ⟨some 10, none, .w (.callL (.f f_any1) [(.t 9)] [8] 0 false)⟩,
    ⟨some 5, none, .d (.mv (.t 10))⟩])
  (.seq (.reg [⟨some 11, none, .d (.mv (.t 5))⟩,
    ⟨some 12, none, .d (.mv (.t 4))⟩,
    ⟨some 13, none, .w (.bslice 1 [.str ⟨#[]⟩, .str ⟨#[]⟩, .str ⟨#[]⟩, .str ⟨#[]⟩, .str ⟨#[]⟩] [(0, (.c (.str ⟨#[44]⟩))), (1, (.c (.str ⟨#[44]⟩))), (2, (.c (.str ⟨#[32]⟩))), (3, (.c (.str ⟨#[]⟩))), (4, (.c (.str ⟨#[44, 44]⟩)))])⟩,
    ⟨some 14, none, .w (.callL (.f f_ofT) [(.t 12), (.t 13)] [8] 0 true)⟩,
    ⟨some 2, none, .d (.mv (.t 11))⟩,
    ⟨some 3, none, .d (.mv (.t 14))⟩])
  (.ret)))), [.tmp 2, .tmp 3]⟩
def n_DrawSplitString : Nat → Option Ann := fun d => if d = 10 then some ⟨[8], 0, false⟩ else if d = 14 then some ⟨[8], 0, true⟩ else none
abbrev k_DrawSplitString : List Nat := [0, 2, 3, 4, 5]
abbrev o_DrawSplitString : List Nat := [8, 13]
def c_DrawSplitString : Con := pure' fun
  | [.p v] => match slU v with
    | some l => some (.tp [.p (.str (lsA l)), .p (.str (ssB l))], [])
    | none => none
  | _ => none
theorem s_DrawSplitString {P : Program} (hm : P.follows .mixedOrders = true) {Γ : Gam} (hΓ : GS P Γ) {n : FuncId} {f_any1 : FuncId} {f_ofT : FuncId} (is : Is P n (a_DrawSplitString f_any1 f_ofT)) (h_any1 : Γ f_any1 = c_any1) (h_ofT : Γ f_ofT = c_ofT)  : Says P n c_DrawSplitString := by
  refine Says.pure fun args r fs h => ?_
  split at h
  case h_2 => cases h
  rename_i v
  split at h
  case h_2 => cases h
  rename_i l hv
  simp only [Option.some.injEq, Prod.mk.injEq] at h
  obtain ⟨rfl, rfl⟩ := h
  have hvc := slU_cells hv
  have hvi := slU_isCell hv
  have q := (cu0 0 (Int.le_refl _)).pk l 9
  have r1 := q.1
  have r2 : (pkC l 9 (0, 0)).1 ≤ 1000 := by have := q.2; omega
  refine is.go hm hΓ k_DrawSplitString o_DrawSplitString (by simp [a_DrawSplitString]) ?_
  simp only [a_DrawSplitString, h_any1, c_any1, h_ofT, c_ofT, hv, hvc, hvi, r1, r2, cuEta, isStr, isS1, ofSt, ofS1, Int.le_refl, (by decide : (0 : Int) ≤ 1000), List.zipIdx_cons, List.zipIdx_nil, ↓SP, SQ, Gam.add, stepM, callC, argC, lendO, nmBy, nmC, likeL, likeB, plainOb, offs, exL, X, F, trP, trO, stepD, stepW, newA, SV.tr, SV.trL, fz, allP, Ob.tr, loadA, cellsA, SV.cells, binA, binI, eqOut, isSl, isPt, natOf, callee, snap, SV.refsL, SV.refs, thaw, fzAll, loA, hiA, elemOf, partsA, buildA, putCells, ↓reduceIte, reduceCtorEq, okCell, Nat.reduceAdd, Nat.reduceEqDiff, Nat.reduceSub, Nat.reduceMul, Nat.reduceLeDiff, Nat.reduceLT, Nat.reduceBEq, PV.scal, PV.scalL, SV.scal, SV.scalL, Ob.scal, PV.isCell, pure', resO]
  exact finA_val (by simp [hvc, lsA, ssB, spL, retA, rvA, mkE_cons, mk_nil, mkO_cons, mkO_nil, loadA, SV.tr, SV.trL, nmF, rn_nil, rn_cons1, rn_cons2, plainOb, SV.refsL, SV.refs, Ob.refs, X, F, List.range_succ, mkO, setO_mk]) (by simp [SV.tr, SV.trL])
def a_DrawLessString (f_any1 : FuncId) : AFn := ⟨1, 
  .seq (.reg [⟨some 2, none, .d (.mv (.c (.str ⟨#[]⟩)))⟩,
    ⟨some 3, none, .d (.mv (.c (.str ⟨#[]⟩)))⟩])
  (.seq (.reg [⟨some 6, none, .d (.mv (.t 0))⟩,
    ⟨some 7, none, .d (.build [.nilsl, .int .i64 0, .int .u64 0] [(0, 1, (.t 6))])⟩,
    ⟨some 8, none, .w (.box 3 (.t 7))⟩,
    ⟨some 4, none, .d (.mv (.t 8))⟩])
  (.seq (.reg [⟨some 9, none, .d (.mv (.t 4))⟩,
    ⟨some 10, none, .w (.callL (.f f_any1) [(.t 9)] [8] 0 false)⟩,
    ⟨some 5, none, .d (.mv (.t 10))⟩])
  (.seq (.reg [⟨some 11, none, .d (.mv (.t 5))⟩,
    ⟨some 12, none, .d (.mv (.t 4))⟩,
    ⟨some 13, none, .w (.callL (.f f_any1) [(.t 12)] [8] 0 false)⟩,
    ⟨some 2, none, .d (.mv (.t 11))⟩,
    ⟨some 3, none, .d (.mv (.t 13))⟩])
  (.ret)))), [.tmp 2, .tmp 3]⟩
def n_DrawLessString : Nat → Option Ann := fun d => if d = 10 then some ⟨[8], 0, false⟩ else if d = 13 then some ⟨[8], 0, false⟩ else none
abbrev k_DrawLessString : List Nat := [0, 2, 3, 4, 5]
abbrev o_DrawLessString : List Nat := [8]
def c_DrawLessString : Con := pure' fun
  | [.p v] => match slU v with
    | some l => some (.tp [.p (.str (lsA l)), .p (.str (lsB l))], [])
    | none => none
  | _ => none
theorem s_DrawLessString {P : Program} (hm : P.follows .mixedOrders = true) {Γ : Gam} (hΓ : GS P Γ) {n : FuncId} {f_any1 : FuncId} (is : Is P n (a_DrawLessString f_any1)) (h_any1 : Γ f_any1 = c_any1)  : Says P n c_DrawLessString := by
  refine Says.pure fun args r fs h => ?_
  split at h
  case h_2 => cases h
  rename_i v
  split at h
  case h_2 => cases h
  rename_i l hv
  simp only [Option.some.injEq, Prod.mk.injEq] at h
  obtain ⟨rfl, rfl⟩ := h
  have hvc := slU_cells hv
  have hvi := slU_isCell hv
  have q := (cu0 0 (Int.le_refl _)).pk l 9
  have r1 := q.1
  have r2 : (pkC l 9 (0, 0)).1 ≤ 1000 := by have := q.2; omega
  refine is.go hm hΓ k_DrawLessString o_DrawLessString (by simp [a_DrawLessString]) ?_
  simp only [a_DrawLessString, h_any1, c_any1, hv, hvc, hvi, r1, r2, cuEta, Int.le_refl, (by decide : (0 : Int) ≤ 1000), List.zipIdx_cons, List.zipIdx_nil, ↓SP, SQ, Gam.add, stepM, callC, argC, lendO, nmBy, nmC, likeL, likeB, plainOb, offs, exL, X, F, trP, trO, stepD, stepW, newA, SV.tr, SV.trL, fz, allP, Ob.tr, loadA, cellsA, SV.cells, binA, binI, eqOut, isSl, isPt, natOf, callee, snap, SV.refsL, SV.refs, thaw, fzAll, loA, hiA, elemOf, partsA, buildA, putCells, ↓reduceIte, reduceCtorEq, okCell, Nat.reduceAdd, Nat.reduceEqDiff, Nat.reduceSub, Nat.reduceMul, Nat.reduceLeDiff, Nat.reduceLT, Nat.reduceBEq, PV.scal, PV.scalL, SV.scal, SV.scalL, Ob.scal, PV.isCell, pure', resO]
  exact finA_val (by simp [hvc, lsA, lsB, retA, rvA, mkE_cons, mk_nil, mkO_cons, mkO_nil, loadA, SV.tr, SV.trL, nmF, rn_nil, rn_cons1, rn_cons2, plainOb, SV.refsL, SV.refs, Ob.refs, X, F, List.range_succ, mkO, setO_mk]) (by simp [SV.tr, SV.trL])
def a_LessString : AFn := ⟨2, 
  .seq (.reg [⟨some 4, none, .d (.mv (.c (.bool false)))⟩])
  (.seq (.reg [⟨some 5, none, .d (.mv (.t 0))⟩,
    ⟨some 6, none, .d (.mv (.t 1))⟩,
    ⟨some 7, none, .d (.bin .str .lss (.t 5) (.t 6))⟩,
    ⟨some 4, none, .d (.mv (.t 7))⟩])
  (.ret)), [.tmp 4]⟩
def n_LessString : Nat → Option Ann := fun _ => none
abbrev k_LessString : List Nat := [0, 1, 4]
abbrev o_LessString : List Nat := []
def a_LessString2 : AFn := ⟨2, 
  .seq (.reg [⟨some 4, none, .d (.mv (.c (.bool false)))⟩])
  (.seq (.reg [⟨some 5, none, .d (.mv (.t 0))⟩,
    ⟨some 6, none, .d (.mv (.t 1))⟩,
    ⟨some 7, none, .d (.bin .str .lss (.t 5) (.t 6))⟩,
    ⟨some 4, none, .d (.mv (.t 7))⟩])
  (.ret)), [.tmp 4]⟩
def n_LessString2 : Nat → Option Ann := fun _ => none
abbrev k_LessString2 : List Nat := [0, 1, 4]
abbrev o_LessString2 : List Nat := []
def c_LessString : Con := pure' fun
  | [.p (.str a), .p (.str b)] => some (.p (.bool (Op.bytesLess a.toList b.toList)), [])
  | _ => none
theorem s_LessString {P : Program} (hm : P.follows .mixedOrders = true) {Γ : Gam} (hΓ : GS P Γ) {n : FuncId} (is : Is P n a_LessString)  : Says P n c_LessString := by
  refine Says.pure fun args r fs h => ?_
  split at h
  case h_2 => cases h
  rename_i a b
  simp only [Option.some.injEq, Prod.mk.injEq] at h
  obtain ⟨rfl, rfl⟩ := h
  refine is.go hm hΓ k_LessString o_LessString (by simp [a_LessString]) ?_
  simp only [a_LessString, binS, List.zipIdx_cons, List.zipIdx_nil, ↓SP, SQ, Gam.add, stepM, callC, argC, lendO, nmBy, nmC, likeL, likeB, plainOb, offs, exL, X, F, trP, trO, stepD, stepW, newA, SV.tr, SV.trL, fz, allP, Ob.tr, loadA, cellsA, SV.cells, binA, binI, eqOut, isSl, isPt, natOf, callee, snap, SV.refsL, SV.refs, thaw, fzAll, loA, hiA, elemOf, partsA, buildA, putCells, ↓reduceIte, reduceCtorEq, okCell, Nat.reduceAdd, Nat.reduceEqDiff, Nat.reduceSub, Nat.reduceMul, Nat.reduceLeDiff, Nat.reduceLT, Nat.reduceBEq, PV.scal, PV.scalL, SV.scal, SV.scalL, Ob.scal, PV.isCell, pure', resO]
  exact finA_val (by simp [retA, rvA, mkE_cons, mk_nil, mkO_cons, mkO_nil, loadA, SV.tr, SV.trL, nmF, rn_nil, rn_cons1, rn_cons2, plainOb, SV.refsL, SV.refs, Ob.refs, X, F, List.range_succ, mkO, setO_mk]) (by simp [SV.tr, SV.trL])
theorem s_LessString2 {P : Program} (hm : P.follows .mixedOrders = true) {Γ : Gam} (hΓ : GS P Γ) {n : FuncId} (is : Is P n a_LessString2)  : Says P n c_LessString := by
  refine Says.pure fun args r fs h => ?_
  split at h
  case h_2 => cases h
  rename_i a b
  simp only [Option.some.injEq, Prod.mk.injEq] at h
  obtain ⟨rfl, rfl⟩ := h
  refine is.go hm hΓ k_LessString2 o_LessString2 (by simp [a_LessString2]) ?_
  simp only [a_LessString2, binS, List.zipIdx_cons, List.zipIdx_nil, ↓SP, SQ, Gam.add, stepM, callC, argC, lendO, nmBy, nmC, likeL, likeB, plainOb, offs, exL, X, F, trP, trO, stepD, stepW, newA, SV.tr, SV.trL, fz, allP, Ob.tr, loadA, cellsA, SV.cells, binA, binI, eqOut, isSl, isPt, natOf, callee, snap, SV.refsL, SV.refs, thaw, fzAll, loA, hiA, elemOf, partsA, buildA, putCells, ↓reduceIte, reduceCtorEq, okCell, Nat.reduceAdd, Nat.reduceEqDiff, Nat.reduceSub, Nat.reduceMul, Nat.reduceLeDiff, Nat.reduceLT, Nat.reduceBEq, PV.scal, PV.scalL, SV.scal, SV.scalL, Ob.scal, PV.isCell, pure', resO]
  exact finA_val (by simp [retA, rvA, mkE_cons, mk_nil, mkO_cons, mkO_nil, loadA, SV.tr, SV.trL, nmF, rn_nil, rn_cons1, rn_cons2, plainOb, SV.refsL, SV.refs, Ob.refs, X, F, List.range_succ, mkO, setO_mk]) (by simp [SV.tr, SV.trL])
theorem strs_app1 (l : List ByteArray) (a : ByteArray) : strs l ++ [.str a] = strs (l ++ [a]) := by simp [strs]
def zerosB (n : Nat) : ByteArray := pushB (List.replicate n 0)
theorem u8sOf_zeros (n : Nat) : u8sOf (List.replicate n (.int .u8 0)) = some (List.replicate n 0) := by
  induction n with
  | zero => rfl
  | succ n ih => simp [List.replicate_succ, u8sOf, ih]
theorem pushB_size (ns : List Int) : ∀ r : ByteArray, (ns.foldl (fun r n => r.push (UInt8.ofNat n.toNat)) r).size = r.size + ns.length := by
  induction ns with
  | nil => intro r; simp
  | cons a ns ih => intro r; simp only [List.foldl_cons, ih, List.length_cons, ByteArray.size_push]; omega
theorem zerosB_size (n : Nat) : (zerosB n).size = n := by
  unfold zerosB pushB
  rw [pushB_size]
  simp
/-- strings, drawn one by one. -/
def jdS (l : List Int) (c : Cu) : Nat → List ByteArray × Cu
  | 0 => ([], c)
  | j + 1 => ((jdS l c j).1 ++ [amS l anL (jdS l c j).2], pkC l 9 (jdS l c j).2)
theorem jdS_b {l : List Int} (hl : ∀ x ∈ l, 0 ≤ x ∧ x ≤ 255) {b : Int} {c : Cu} (hc : CuA c b) : ∀ j, (jdS l c j).1.length = j ∧ CuA (jdS l c j).2 (b + j) ∧ ∀ x ∈ (jdS l c j).1, x.size ≤ 4009
  | 0 => ⟨rfl, by simpa [jdS] using hc, by simp [jdS]⟩
  | j + 1 => by
    obtain ⟨h1, h4, h5⟩ := jdS_b hl hc j
    refine ⟨by simp [jdS, h1], ?_, ?_⟩
    · simp only [jdS]
      exact (h4.pk l 9).mono (by omega)
    · intro x hx
      simp only [jdS, List.mem_append, List.mem_singleton] at hx
      rcases hx with hx | rfl
      · exact h5 x hx
      · exact Nat.le_trans ((by decide : ∀ x ∈ anL, x.size ≤ 10) _ (amS_mem hl h4.1 (by decide))) (by decide)
def dmL : List ByteArray := [⟨#[44]⟩, ⟨#[59]⟩, ⟨#[59]⟩, ⟨#[]⟩, ⟨#[97, 98]⟩]
def jdE (l : List Int) (S : List ByteArray × Cu) : List ByteArray × ByteArray :=
  if pkV l 20 S.2 = 0 then (S.1 ++ [zerosB (3990 + pkV l 20 (pkC l 20 S.2)).toNat], amS l dmL (pkC l 20 (pkC l 20 S.2))) else (S.1, amS l dmL (pkC l 20 S.2))
def jdR (l : List Int) : List ByteArray × ByteArray := jdE l (jdS l (pkC l 4 (0, 0)) (pkV l 4 (0, 0)).toNat)
theorem jdR_b {l : List Int} (hl : ∀ x ∈ l, 0 ≤ x ∧ x ≤ 255) : (jdR l).1.length ≤ 5 ∧ ∀ x ∈ (jdR l).1, x.size ≤ 4009 := by
  have q := (cu0 0 (Int.le_refl _)).pk l 4
  have hv := pkV_b hl (n := 4) (c := (0, 0)) (Int.le_refl 0)
  obtain ⟨h1, h2, h3⟩ := jdS_b hl q (pkV l 4 (0, 0)).toNat
  unfold jdR jdE
  have hz := pkV_b hl (n := 20) (c := pkC l 20 (jdS l (pkC l 4 (0, 0)) (pkV l 4 (0, 0)).toNat).2) (h2.pk l 20).1
  split
  · refine ⟨by simp only [List.length_append, h1, List.length_singleton]; omega, fun x hx => ?_⟩
    simp only [List.mem_append, List.mem_singleton] at hx
    rcases hx with hx | rfl
    · exact h3 x hx
    · rw [zerosB_size]; omega
  · exact ⟨by simp only; omega, h3⟩
def a_DrawJoinStrings (f_pick : FuncId) (f_any1 : FuncId) (f_one : FuncId) (f_ofT : FuncId) : AFn := ⟨1, 
  .seq (.reg [⟨some 2, none, .d (.mv (.c (.nilsl)))⟩,
    ⟨some 3, none, .d (.mv (.c (.str ⟨#[]⟩)))⟩])
  (.seq (.reg [⟨some 8, none, .d (.mv (.t 0))⟩,
    ⟨some 9, none, .d (.build [.nilsl, .int .i64 0, .int .u64 0] [(0, 1, (.t 8))])⟩,
    ⟨some 10, none, .w (.box 3 (.t 9))⟩,
    ⟨some 4, none, .d (.mv (.t 10))⟩])
  (.seq (.reg [⟨some 11, none, .w (.bslice 1 [] [])⟩,
    ⟨some 5, none, .d (.mv (.t 11))⟩])
  (.seq (.reg [⟨some 12, none, .d (.mv (.t 4))⟩,
    ⟨some 13, none, .w (.callL (.f f_pick) [(.t 12), (.c (.int .i64 4))] [10] 0 false)⟩,
    ⟨some 6, none, .d (.mv (.t 13))⟩])
  (.seq (.seq (.reg [⟨some 7, none, .d (.mv (.c (.int .i64 0)))⟩])
  (.block 0 (.loop (.seq (.seq (.reg [⟨some 14, none, .d (.mv (.t 7))⟩,
      ⟨some 15, none, .d (.mv (.t 6))⟩,
      ⟨some 16, none, .d (.bin .arith .lss (.t 14) (.t 15))⟩])
    (.cond (.t 16) (.skip) (.exit 0)))
    (.seq (.block 1 (.reg [⟨some 19, none, .d (.mv (.t 5))⟩,
       ⟨some 20, none, .d (.mv (.t 4))⟩,
       ⟨some 21, none, .w (.callL (.f f_any1) [(.t 20)] [10] 0 false)⟩,
       ⟨some 22, none, .w (.bslice 1 [.str ⟨#[]⟩] [(0, (.t 21))])⟩,
       ⟨some 23, none, .w (.append 1 (.t 19) (.t 22))⟩,
       ⟨some 5, none, .d (.mv (.t 23))⟩]))
    (.reg [⟨some 17, none, .d (.mv (.t 7))⟩,
      ⟨some 18, none, .d (.bin .arith .add (.t 17) (.c (.int .i64 1)))⟩,
      ⟨some 7, none, .d (.mv (.t 18))⟩]))))))
  (.seq (.seq (.reg [⟨some 24, none, .d (.mv (.t 4))⟩,
    ⟨some 25, none, .w (.callL (.f f_one) [(.t 24), (.c (.int .i64 20))] [10] 0 false)⟩])
  (.cond (.t 25) (.reg [⟨some 26, none, .d (.mv (.t 5))⟩,
     ⟨some 27, none, .d (.mv (.t 4))⟩,
     ⟨some 28, none, .w (.callL (.f f_pick) [(.t 27), (.c (.int .i64 20))] [10] 0 false)⟩,
     ⟨some 29, none, .d (.bin .arith .add (.c (.int .i64 3990)) (.t 28))⟩,
     ⟨some 30, none, .w (.mkslice 1 (.int .u8 0) (.t 29))⟩,
     ⟨some 31, none, .d (.convS (.t 30))⟩,
     ⟨some 32, none, .w (.bslice 1 [.str ⟨#[]⟩] [(0, (.t 31))])⟩,
     ⟨some 33, none, .w (.append 1 (.t 26) (.t 32))⟩,
     ⟨some 5, none, .d (.mv (.t 33))⟩]) (.skip)))
  (.seq (.reg [⟨some 34, none, .d (.mv (.t 5))⟩,
    ⟨some 35, none, .d (.mv (.t 4))⟩,
    ⟨some 36, none, .w (.bslice 1 [.str ⟨#[]⟩, .str ⟨#[]⟩, .str ⟨#[]⟩, .str ⟨#[]⟩, .str ⟨#[]⟩] [(0, (.c (.str ⟨#[44]⟩))), (1, (.c (.str ⟨#[59]⟩))), (2, (.c (.str ⟨#[59]⟩))), (3, (.c (.str ⟨#[]⟩))), (4, (.c (.str ⟨#[97, 98]⟩)))])⟩,
    ⟨some 37, none, .w (.callL (.f f_ofT) [(.t 35), (.t 36)] [10] 0 true)⟩,
    ⟨some 2, none, .d (.mv (.t 34))⟩,
    ⟨some 3, none, .d (.mv (.t 37))⟩])
  (.ret))))))), [.tmp 2, .tmp 3]⟩
def n_DrawJoinStrings : Nat → Option Ann := fun d => if d = 13 then some ⟨[10], 0, false⟩ else if d = 21 then some ⟨[10], 0, false⟩ else if d = 25 then some ⟨[10], 0, false⟩ else if d = 28 then some ⟨[10], 0, false⟩ else if d = 37 then some ⟨[10], 0, true⟩ else none
abbrev k_DrawJoinStrings : List Nat := [0, 2, 3, 4, 5, 6, 7, 16, 25]
abbrev o_DrawJoinStrings : List Nat := [10, 11, 22, 23, 30, 32, 33, 36]
def c_DrawJoinStrings : Con := pure' fun
  | [.p v] => match slU v with
    | some l => some (.tp [.ar 2000000, .p (.str (jdR l).2)], [.arr 1 (strs (jdR l).1)])
    | none => none
  | _ => none
theorem s_DrawJoinStrings {P : Program} (hm : P.follows .mixedOrders = true) {Γ : Gam} (hΓ : GS P Γ) {n : FuncId} {f_pick : FuncId} {f_any1 : FuncId} {f_one : FuncId} {f_ofT : FuncId} (is : Is P n (a_DrawJoinStrings f_pick f_any1 f_one f_ofT)) (h_pick : Γ f_pick = c_pick) (h_any1 : Γ f_any1 = c_any1) (h_one : Γ f_one = c_one) (h_ofT : Γ f_ofT = c_ofT)  : Says P n c_DrawJoinStrings := by
  refine Says.pure fun args r fs h => ?_
  split at h
  case h_2 => cases h
  rename_i v
  split at h
  case h_2 => cases h
  rename_i l hv
  simp only [Option.some.injEq, Prod.mk.injEq] at h
  obtain ⟨rfl, rfl⟩ := h
  have hl := (slU_out hv).2
  have hvc := slU_cells hv
  have hvi := slU_isCell hv
  have ha2 := (cu0 0 (Int.le_refl _)).pk l 4
  have hM := pkV_b hl (n := 4) (c := (0, 0)) (Int.le_refl 0)
  have q1 := ha2.1
  have hcr : jdR l = jdE l (jdS l (pkC l 4 (0, 0)) (pkV l 4 (0, 0)).toNat) := rfl
  rw [hcr]
  refine is.go hm hΓ k_DrawJoinStrings o_DrawJoinStrings (by simp [a_DrawJoinStrings]) ?_
  simp only [a_DrawJoinStrings, h_pick, c_pick, h_any1, c_any1, h_one, c_one, h_ofT, c_ofT, hv, hvc, hvi, q1, cuEta, Int.le_refl, (by decide : (0 : Int) ≤ 1000), (by decide : (4 : Int) ≤ 200), true_or, if_true, List.zipIdx_cons, List.zipIdx_nil, ↓SP, SQ, Gam.add, stepM, callC, argC, lendO, nmBy, nmC, likeL, likeB, plainOb, offs, exL, X, F, trP, trO, stepD, stepW, newA, SV.tr, SV.trL, fz, allP, Ob.tr, loadA, cellsA, SV.cells, binA, binI, eqOut, isSl, isPt, natOf, callee, snap, SV.refsL, SV.refs, thaw, fzAll, loA, hiA, elemOf, partsA, buildA, putCells, ↓reduceIte, reduceCtorEq, okCell, Nat.reduceAdd, Nat.reduceEqDiff, Nat.reduceSub, Nat.reduceMul, Nat.reduceLeDiff, Nat.reduceLT, Nat.reduceBEq, PV.scal, PV.scalL, SV.scal, SV.scalL, Ob.scal, PV.isCell, pure', resO]
  generalize pkV l 4 (0, 0) = M at *
  generalize pkC l 4 (0, 0) = c2 at *
  obtain ⟨M, rfl⟩ : ∃ m : Nat, M = m := ⟨M.toNat, by omega⟩
  have hcn := jdS_b hl ha2
  generalize hS : jdS l c2 = S at *
  have hSs : ∀ j, S (j + 1) = ((S j).1 ++ [amS l anL (S j).2], pkC l 9 (S j).2) := fun j => by rw [← hS]; rfl
  have hS0 : S 0 = ([], c2) := by rw [← hS]; rfl
  simp only [Int.toNat_natCast]
  refine loop_at (fun s : Nat × SV × Option Ob × Option Ob => mkEnv [(0, .p v), (2, .p .nilsl), (3, .p (.str ⟨#[]⟩)), (4, .bx 10 0), (5, .ar 11), (6, si M), (7, si s.1), (16, s.2.1), (25, .junk)])
    (fun s => mkO [(10, some (.box [.p v, si (S s.1).2.1, .p (.int .u64 (S s.1).2.2)])), (11, some (.arr 1 (strs (S s.1).1))), (22, s.2.2.1), (23, s.2.2.2), (30, none), (32, none), (33, none), (36, none)])
    (fun s => s.1 ≤ M) (fun s => M - s.1) (0, .junk, none, none) (by simp) (by simp [hS0]) (by simp [hS0]; rfl) ?_
  rintro ⟨j, x16, o22, o23⟩ hj R hR hN
  simp only at hj
  obtain ⟨g1, g4, g5⟩ := hcn j
  have r1 := g4.1
  have r2 : (S j).2.1 ≤ 1000 := by have := g4.2; omega
  by_cases h : j < M
  · have hgt : (j : Int) < M := by omega
    have hw : IntKind.i64.wrap ((j : Int) + 1) = ((j + 1 : Nat) : Int) := by rw [wrap64 (by omega) (by omega)]; omega
    have hap : strs (S j).1 ++ [.str (amS l anL (S j).2)] = strs (S (j + 1)).1 := by rw [hSs]; exact strs_app1 _ _
    have hln : (S j).1.length + 1 ≤ roomA := by rw [g1]; exact Nat.le_trans (by omega) (by decide : 100 ≤ roomA)
    have hc1 : pkC l 9 (S j).2 = (S (j + 1)).2 := by rw [hSs]
    simp only [h_any1, c_any1, hv, r1, r2, hgt, hw, hap, hln, hc1, cuEta, strs_len, ↓SP, SQ, Gam.add, stepM, callC, argC, lendO, nmBy, nmC, likeL, likeB, plainOb, offs, exL, X, F, trP, trO, stepD, stepW, newA, SV.tr, SV.trL, fz, allP, Ob.tr, loadA, cellsA, SV.cells, binA, binI, eqOut, isSl, isPt, natOf, callee, snap, SV.refsL, SV.refs, thaw, fzAll, loA, hiA, elemOf, partsA, buildA, putCells, ↓reduceIte, reduceCtorEq, okCell, Nat.reduceAdd, Nat.reduceEqDiff, Nat.reduceSub, Nat.reduceMul, Nat.reduceLeDiff, Nat.reduceLT, Nat.reduceBEq, PV.scal, PV.scalL, SV.scal, SV.scalL, Ob.scal, PV.isCell, pure', resO]
    exact hN (j + 1, _, _, _) _ _ (by simp only; omega) (by simp only; omega) rfl rfl
  · have he : j = M := by omega
    subst he
    have hgt : ¬ (j : Int) < j := by omega
    simp only [hgt, ↓SP, SQ, Gam.add, stepM, callC, argC, lendO, nmBy, nmC, likeL, likeB, plainOb, offs, exL, X, F, trP, trO, stepD, stepW, newA, SV.tr, SV.trL, fz, allP, Ob.tr, loadA, cellsA, SV.cells, binA, binI, eqOut, isSl, isPt, natOf, callee, snap, SV.refsL, SV.refs, thaw, fzAll, loA, hiA, elemOf, partsA, buildA, putCells, ↓reduceIte, reduceCtorEq, okCell, Nat.reduceAdd, Nat.reduceEqDiff, Nat.reduceSub, Nat.reduceMul, Nat.reduceLeDiff, Nat.reduceLT, Nat.reduceBEq, PV.scal, PV.scalL, SV.scal, SV.scalL, Ob.scal, PV.isCell, pure', resO]
    refine hR _ _ _ (by intro h; cases h) ?_
    simp only [h_one, c_one, hv, r1, r2, cuEta, (by decide : (20 : Int) ≤ 200), ↓SP, SQ, Gam.add, stepM, callC, argC, lendO, nmBy, nmC, likeL, likeB, plainOb, offs, exL, X, F, trP, trO, stepD, stepW, newA, SV.tr, SV.trL, fz, allP, Ob.tr, loadA, cellsA, SV.cells, binA, binI, eqOut, isSl, isPt, natOf, callee, snap, SV.refsL, SV.refs, thaw, fzAll, loA, hiA, elemOf, partsA, buildA, putCells, ↓reduceIte, reduceCtorEq, okCell, Nat.reduceAdd, Nat.reduceEqDiff, Nat.reduceSub, Nat.reduceMul, Nat.reduceLeDiff, Nat.reduceLT, Nat.reduceBEq, PV.scal, PV.scalL, SV.scal, SV.scalL, Ob.scal, PV.isCell, pure', resO]
    have ha3 := g4.pk l 20
    have t1 := ha3.1
    have t2 : (pkC l 20 (S j).2).1 ≤ 1000 := by have := ha3.2; omega
    unfold jdE
    by_cases p0 : pkV l 20 (S j).2 = 0
    · have ha4 := ha3.pk l 20
      have t3 := ha4.1
      have t4 : (pkC l 20 (pkC l 20 (S j).2)).1 ≤ 1000 := by have := ha4.2; omega
      have hp := pkV_b hl (n := 20) (c := pkC l 20 (S j).2) ha3.1
      have hw : IntKind.i64.wrap (3990 + pkV l 20 (pkC l 20 (S j).2)) = 3990 + pkV l 20 (pkC l 20 (S j).2) := wrap64 (by omega) (by omega)
      have hap : strs (S j).1 ++ [.str (zerosB (3990 + pkV l 20 (pkC l 20 (S j).2)).toNat)] = strs ((S j).1 ++ [zerosB (3990 + pkV l 20 (pkC l 20 (S j).2)).toNat]) := strs_app1 _ _
      have hln : (S j).1.length + 1 ≤ roomA := by rw [g1]; exact Nat.le_trans (by omega) (by decide : 100 ≤ roomA)
      have hz : u8sOf (List.replicate (3990 + pkV l 20 (pkC l 20 (S j).2)).toNat (.int .u8 0)) = some (List.replicate (3990 + pkV l 20 (pkC l 20 (S j).2)).toNat 0) := u8sOf_zeros _
      have hz2 : pushB (List.replicate (3990 + pkV l 20 (pkC l 20 (S j).2)).toNat 0) = zerosB (3990 + pkV l 20 (pkC l 20 (S j).2)).toNat := rfl
      have h39 : 0 ≤ 3990 + pkV l 20 (pkC l 20 (S j).2) := by omega
      have hrm : (3990 + pkV l 20 (pkC l 20 (S j).2)).toNat ≤ roomA := Nat.le_trans (by omega) (by decide : 5000 ≤ roomA)
      simp only [p0, h_pick, c_pick, h_ofT, c_ofT, hv, t1, t2, t3, t4, hw, h39, hrm, hz, hz2, hap, hln, isStr, isS1, ofSt, ofS1, cuEta, strs_len, Int.le_refl, (by decide : (20 : Int) ≤ 200), true_or, if_true, ↓SP, SQ, Gam.add, stepM, callC, argC, lendO, nmBy, nmC, likeL, likeB, plainOb, offs, exL, X, F, trP, trO, stepD, stepW, newA, SV.tr, SV.trL, fz, allP, Ob.tr, loadA, cellsA, SV.cells, binA, binI, eqOut, isSl, isPt, natOf, callee, snap, SV.refsL, SV.refs, thaw, fzAll, loA, hiA, elemOf, partsA, buildA, putCells, ↓reduceIte, reduceCtorEq, okCell, Nat.reduceAdd, Nat.reduceEqDiff, Nat.reduceSub, Nat.reduceMul, Nat.reduceLeDiff, Nat.reduceLT, Nat.reduceBEq, PV.scal, PV.scalL, SV.scal, SV.scalL, Ob.scal, PV.isCell, pure', resO]
      refine finA_gen [11] trivial (by simp [retA, rvA, mkE_cons, mk_nil, mkO_cons, mkO_nil, loadA, SV.tr, SV.trL, nmF, rn_nil, rn_cons1, rn_cons2, plainOb, SV.refsL, SV.refs, Ob.refs, X, F, List.range_succ, mkO, setO_mk]; rfl) ?_ ?_ ?_ ?_ ?_ ?_ ?_ <;> simp [dmL, retA, rvA, mkE_cons, mk_nil, mkO_cons, mkO_nil, loadA, SV.tr, SV.trL, nmF, rn_nil, rn_cons1, rn_cons2, plainOb, SV.refsL, SV.refs, Ob.refs, X, F, List.range_succ, mkO, setO_mk]
    · have p0' : (pkV l 20 (S j).2 == 0) = false := by simp [p0]
      simp only [p0, p0', h_ofT, c_ofT, hv, t1, t2, isStr, isS1, ofSt, ofS1, cuEta, if_false, ↓SP, SQ, Gam.add, stepM, callC, argC, lendO, nmBy, nmC, likeL, likeB, plainOb, offs, exL, X, F, trP, trO, stepD, stepW, newA, SV.tr, SV.trL, fz, allP, Ob.tr, loadA, cellsA, SV.cells, binA, binI, eqOut, isSl, isPt, natOf, callee, snap, SV.refsL, SV.refs, thaw, fzAll, loA, hiA, elemOf, partsA, buildA, putCells, ↓reduceIte, reduceCtorEq, okCell, Nat.reduceAdd, Nat.reduceEqDiff, Nat.reduceSub, Nat.reduceMul, Nat.reduceLeDiff, Nat.reduceLT, Nat.reduceBEq, PV.scal, PV.scalL, SV.scal, SV.scalL, Ob.scal, PV.isCell, pure', resO]
      refine finA_gen [11] trivial (by simp [retA, rvA, mkE_cons, mk_nil, mkO_cons, mkO_nil, loadA, SV.tr, SV.trL, nmF, rn_nil, rn_cons1, rn_cons2, plainOb, SV.refsL, SV.refs, Ob.refs, X, F, List.range_succ, mkO, setO_mk]; rfl) ?_ ?_ ?_ ?_ ?_ ?_ ?_ <;> simp [dmL, retA, rvA, mkE_cons, mk_nil, mkO_cons, mkO_nil, loadA, SV.tr, SV.trL, nmF, rn_nil, rn_cons1, rn_cons2, plainOb, SV.refsL, SV.refs, Ob.refs, X, F, List.range_succ, mkO, setO_mk]
def bAt (s : ByteArray) (i : Nat) : UInt8 := s[i]?.getD 0
theorem bget {s : ByteArray} {i : Nat} (h : i < s.size) : s[i]? = some (bAt s i) := by
  unfold bAt
  rw [getElem?_pos s i h]
  rfl
/-- A text, parted at a byte: the parts till then, and where the next one begins. -/
def stS (s : ByteArray) (b : UInt8) : Nat → List ByteArray × Nat
  | 0 => ([], 0)
  | i + 1 => if bAt s i = b then ((stS s b i).1 ++ [s.extract (stS s b i).2 i], i + 1) else stS s b i
theorem stS_b (s : ByteArray) (b : UInt8) : ∀ i, (stS s b i).2 ≤ i ∧ (stS s b i).1.length ≤ i
  | 0 => ⟨Nat.le_refl _, Nat.le_refl _⟩
  | i + 1 => by
    have h := stS_b s b i
    unfold stS
    split
    · refine ⟨Nat.le_refl _, ?_⟩
      simp only [List.length_append, List.length_singleton]
      omega
    · omega
def stR (s : ByteArray) (b : UInt8) : List ByteArray := (stS s b s.size).1 ++ [s.extract (stS s b s.size).2 s.size]
def a_SplitString : AFn := ⟨2, 
  .seq (.reg [⟨some 4, none, .d (.mv (.c (.nilsl)))⟩,
    ⟨some 5, none, .d (.mv (.c (.bool false)))⟩])
  (.seq (.seq (.reg [⟨some 9, none, .d (.mv (.t 0))⟩,
    ⟨some 10, none, .d (.lenS (.t 9))⟩,
    ⟨some 11, none, .d (.bin .arith .gtr (.t 10) (.c (.int .i64 4000)))⟩,
    ⟨some 12, none, .d (.mv (.t 11))⟩,
    ⟨some 13, some (12, false), .d (.mv (.t 1))⟩,
    ⟨some 14, some (12, false), .d (.lenS (.t 13))⟩,
    ⟨some 15, some (12, false), .d (.bin .arith .neq (.t 14) (.c (.int .i64 1)))⟩,
    ⟨some 16, none, .d (.pick (.t 12) (.c (.bool true)) (.t 15))⟩])
  (.cond (.t 16) (.seq (.reg [⟨some 4, none, .d (.mv (.c (.nilsl)))⟩,
     ⟨some 5, none, .d (.mv (.c (.bool false)))⟩])
   (.ret)) (.skip)))
  (.seq (.reg [⟨some 17, none, .w (.bslice 1 [] [])⟩,
    ⟨some 6, none, .d (.mv (.t 17))⟩,
    ⟨some 7, none, .d (.mv (.c (.int .i64 0)))⟩])
  (.seq (.seq (.reg [⟨some 18, none, .d (.mv (.t 0))⟩,
    ⟨some 19, none, .d (.lenS (.t 18))⟩,
    ⟨some 20, none, .d (.mv (.c (.int .i64 0)))⟩])
  (.block 0 (.loop (.seq (.reg [⟨some 21, none, .d (.bin .arith .lss (.t 20) (.t 19))⟩])
    (.seq (.cond (.t 21) (.skip) (.exit 0))
    (.seq (.block 1 (.seq (.reg [⟨some 22, none, .d (.mv (.t 20))⟩,
       ⟨some 8, none, .d (.mv (.t 22))⟩])
     (.seq (.dreg [] [([], ⟨some 23, none, .d (.mv (.t 0))⟩),
       ([], ⟨some 24, none, .d (.mv (.t 8))⟩),
       ([], ⟨some 25, none, .d (.idxS (.t 23) (.t 24))⟩),
       ([], ⟨some 26, none, .d (.mv (.t 1))⟩),
       ([], ⟨some 27, none, .d (.idxS (.t 26) (.c (.int .i64 0)))⟩)] [⟨some 28, none, .d (.bin .arith .eql (.t 25) (.t 27))⟩])
     (.cond (.t 28) (.reg [⟨some 29, none, .d (.mv (.t 6))⟩,
        ⟨some 30, none, .d (.mv (.t 0))⟩,
        ⟨some 31, none, .d (.mv (.t 7))⟩,
        ⟨some 32, none, .d (.mv (.t 8))⟩,
        ⟨some 33, none, .d (.slcS (.t 30) (some (.t 31)) (some (.t 32)))⟩,
        ⟨some 34, none, .w (.bslice 1 [.str ⟨#[]⟩] [(0, (.t 33))])⟩,
        ⟨some 35, none, .w (.append 1 (.t 29) (.t 34))⟩,
        ⟨some 36, none, .d (.mv (.t 8))⟩,
        ⟨some 37, none, .d (.bin .arith .add (.t 36) (.c (.int .i64 1)))⟩,
        ⟨some 6, none, .d (.mv (.t 35))⟩,
        ⟨some 7, none, .d (.mv (.t 37))⟩]) (.skip)))))
    (.reg [⟨some 38, none, .d (.bin .arith .add (.t 20) (.c (.int .i64 1)))⟩,
      ⟨some 20, none, .d (.mv (.t 38))⟩])))))))
  (.seq (.reg [⟨some 39, none, .d (.mv (.t 6))⟩,
    ⟨some 40, none, .d (.mv (.t 0))⟩,
    ⟨some 41, none, .d (.mv (.t 7))⟩,
    ⟨some 42, none, .d (.slcS (.t 40) (some (.t 41)) none)⟩,
    ⟨some 43, none, .w (.bslice 1 [.str ⟨#[]⟩] [(0, (.t 42))])⟩,
    ⟨some 44, none, .w (.append 1 (.t 39) (.t 43))⟩,
    ⟨some 4, none, .d (.mv (.t 44))⟩,
    ⟨some 5, none, .d (.mv (.c (.bool true)))⟩])
  (.ret))))), [.tmp 4, .tmp 5]⟩
def n_SplitString : Nat → Option Ann := fun _ => none
abbrev k_SplitString : List Nat := [0, 1, 4, 5, 6, 7, 8, 16, 19, 20, 21, 28]
abbrev o_SplitString : List Nat := [17, 34, 35, 43, 44]
def c_SplitString : Con := pure' fun
  | [.p (.str s), .p (.str sep)] => if s.size ≤ 4000 ∧ sep.size ≤ 4000 then (if sep.size = 1 then some (.tp [.ar 2000000, .p (.bool true)], [.arr 1 (strs (stR s (bAt sep 0)))]) else some (.tp [.p .nilsl, .p (.bool false)], [])) else none
  | _ => none
theorem s_SplitString {P : Program} (hm : P.follows .mixedOrders = true) {Γ : Gam} (hΓ : GS P Γ) {n : FuncId} (is : Is P n a_SplitString)  : Says P n c_SplitString := by
  refine Says.pure fun args r fs h => ?_
  split at h
  case h_2 => cases h
  rename_i s sep
  split at h
  case isFalse => cases h
  rename_i hc
  obtain ⟨hs, hp⟩ := hc
  have h1 : ¬ (s.size : Int) > 4000 := by omega
  split at h
  · rename_i h2
    simp only [Option.some.injEq, Prod.mk.injEq] at h
    obtain ⟨rfl, rfl⟩ := h
    have h3 : ((sep.size : Int) != 1) = false := by simp [h2]
    have h3' : (sep.size : Int) = 1 := by omega
    have hb0 := bget (s := sep) (i := 0) (by omega)
    refine is.go hm hΓ k_SplitString o_SplitString (by simp [a_SplitString]) ?_
    simp only [a_SplitString, h1, h3, h3', (by decide : ((1 : Int) != 1) = false), List.zipIdx_cons, List.zipIdx_nil, ↓SP, SQ, Gam.add, stepM, callC, argC, lendO, nmBy, nmC, likeL, likeB, plainOb, offs, exL, X, F, trP, trO, stepD, stepW, newA, SV.tr, SV.trL, fz, allP, Ob.tr, loadA, cellsA, SV.cells, binA, binI, eqOut, isSl, isPt, natOf, callee, snap, SV.refsL, SV.refs, thaw, fzAll, loA, hiA, elemOf, partsA, buildA, putCells, ↓reduceIte, reduceCtorEq, okCell, Nat.reduceAdd, Nat.reduceEqDiff, Nat.reduceSub, Nat.reduceMul, Nat.reduceLeDiff, Nat.reduceLT, Nat.reduceBEq, PV.scal, PV.scalL, SV.scal, SV.scalL, Ob.scal, PV.isCell, pure', resO]
    generalize bAt sep 0 = b at *
    have hst := stS_b s b
    unfold stR
    generalize hS : stS s b = S at *
    have hSs : ∀ i, S (i + 1) = if bAt s i = b then ((S i).1 ++ [s.extract (S i).2 i], i + 1) else S i := fun i => by rw [← hS]; rfl
    have hS0 : S 0 = ([], 0) := by rw [← hS]; rfl
    refine loop_at (fun t : Nat × SV × SV × SV × Option Ob × Option Ob => mkEnv [(0, .p (.str s)), (1, .p (.str sep)), (4, .p .nilsl), (5, .p (.bool false)), (6, .ar 17), (7, si ((S t.1).2 : Nat)), (8, t.2.1), (16, .p (.bool false)), (19, si s.size), (20, si t.1), (21, t.2.2.1), (28, t.2.2.2.1)])
      (fun t => mkO [(17, some (.arr 1 (strs (S t.1).1))), (34, t.2.2.2.2.1), (35, t.2.2.2.2.2), (43, none), (44, none)])
      (fun t => t.1 ≤ s.size) (fun t => s.size - t.1) (0, .junk, .junk, .junk, none, none) (by simp) (by simp [hS0]) (by simp [hS0]; rfl) ?_
    rintro ⟨i, x8, x21, x28, o34, o35⟩ hi R hR hN
    simp only at hi
    obtain ⟨g1, g2⟩ := hst i
    by_cases hlt : i < s.size
    · have hgt : (i : Int) < s.size := by omega
      have hw : IntKind.i64.wrap ((i : Int) + 1) = ((i + 1 : Nat) : Int) := by rw [wrap64 (by omega) (by omega)]; omega
      have hb := bget hlt
      have hi0 : (0 : Int) ≤ i := by omega
      by_cases he : bAt s i = b
      · have he' : ((bAt s i).toNat : Int) = b.toNat := by rw [he]
        have hSi := hSs i
        rw [if_pos he] at hSi
        have hap : strs (S i).1 ++ [.str (s.extract (S i).2 i)] = strs (S (i + 1)).1 := by rw [hSi]; exact strs_app1 _ _
        have hln : (S i).1.length + 1 ≤ roomA := Nat.le_trans (by omega) (by decide : 5000 ≤ roomA)
        have hle : (S i).2 ≤ i ∧ i ≤ s.size := ⟨g1, hi⟩
        have h7 : ((i + 1 : Nat) : Int) = ((S (i + 1)).2 : Nat) := by rw [hSi]
        simp only [hgt, hw, hb, hb0, hi0, hle, hap, hln, he, Int.toNat_natCast, Int.reduceToNat, strs_len, Int.le_refl, Int.natCast_nonneg, ↓SP, SQ, Gam.add, stepM, callC, argC, lendO, nmBy, nmC, likeL, likeB, plainOb, offs, exL, X, F, trP, trO, stepD, stepW, newA, SV.tr, SV.trL, fz, allP, Ob.tr, loadA, cellsA, SV.cells, binA, binI, eqOut, isSl, isPt, natOf, callee, snap, SV.refsL, SV.refs, thaw, fzAll, loA, hiA, elemOf, partsA, buildA, putCells, ↓reduceIte, reduceCtorEq, okCell, Nat.reduceAdd, Nat.reduceEqDiff, Nat.reduceSub, Nat.reduceMul, Nat.reduceLeDiff, Nat.reduceLT, Nat.reduceBEq, PV.scal, PV.scalL, SV.scal, SV.scalL, Ob.scal, PV.isCell, pure', resO]
        exact hN (i + 1, si i, .p (.bool true), .p (.bool true), _, _) _ _ (by simp only; omega) (by simp only; omega) (by simp only [hSi]) rfl
      · have he' : ((bAt s i).toNat : Int) ≠ b.toNat := fun h => he (UInt8.toNat.inj (by omega))
        have he2 : (((bAt s i).toNat : Int) == b.toNat) = false := by simp; omega
        have hSi := hSs i
        rw [if_neg he] at hSi
        simp only [hgt, hw, hb, hb0, hi0, he2, he', Int.toNat_natCast, Int.reduceToNat, Int.le_refl, ↓SP, SQ, Gam.add, stepM, callC, argC, lendO, nmBy, nmC, likeL, likeB, plainOb, offs, exL, X, F, trP, trO, stepD, stepW, newA, SV.tr, SV.trL, fz, allP, Ob.tr, loadA, cellsA, SV.cells, binA, binI, eqOut, isSl, isPt, natOf, callee, snap, SV.refsL, SV.refs, thaw, fzAll, loA, hiA, elemOf, partsA, buildA, putCells, ↓reduceIte, reduceCtorEq, okCell, Nat.reduceAdd, Nat.reduceEqDiff, Nat.reduceSub, Nat.reduceMul, Nat.reduceLeDiff, Nat.reduceLT, Nat.reduceBEq, PV.scal, PV.scalL, SV.scal, SV.scalL, Ob.scal, PV.isCell, pure', resO]
        exact hN (i + 1, si i, .p (.bool true), .p (.bool false), o34, o35) _ _ (by simp only; omega) (by simp only; omega) (by simp only [hSi]) (by simp only [hSi])
    · have he : i = s.size := by omega
      subst he
      have hgt : ¬ ((s.size : Nat) : Int) < s.size := by omega
      simp only [hgt, ↓SP, SQ, Gam.add, stepM, callC, argC, lendO, nmBy, nmC, likeL, likeB, plainOb, offs, exL, X, F, trP, trO, stepD, stepW, newA, SV.tr, SV.trL, fz, allP, Ob.tr, loadA, cellsA, SV.cells, binA, binI, eqOut, isSl, isPt, natOf, callee, snap, SV.refsL, SV.refs, thaw, fzAll, loA, hiA, elemOf, partsA, buildA, putCells, ↓reduceIte, reduceCtorEq, okCell, Nat.reduceAdd, Nat.reduceEqDiff, Nat.reduceSub, Nat.reduceMul, Nat.reduceLeDiff, Nat.reduceLT, Nat.reduceBEq, PV.scal, PV.scalL, SV.scal, SV.scalL, Ob.scal, PV.isCell, pure', resO]
      refine hR _ _ _ (by intro h; cases h) ?_
      have hap : strs (S s.size).1 ++ [.str (s.extract (S s.size).2 s.size)] = strs ((S s.size).1 ++ [s.extract (S s.size).2 s.size]) := strs_app1 _ _
      have hln : (S s.size).1.length + 1 ≤ roomA := Nat.le_trans (by omega) (by decide : 5000 ≤ roomA)
      have hle : (S s.size).2 ≤ s.size ∧ s.size ≤ s.size := ⟨g1, hi⟩
      simp only [hap, hln, hle, Int.toNat_natCast, Int.reduceToNat, strs_len, Int.natCast_nonneg, ↓SP, SQ, Gam.add, stepM, callC, argC, lendO, nmBy, nmC, likeL, likeB, plainOb, offs, exL, X, F, trP, trO, stepD, stepW, newA, SV.tr, SV.trL, fz, allP, Ob.tr, loadA, cellsA, SV.cells, binA, binI, eqOut, isSl, isPt, natOf, callee, snap, SV.refsL, SV.refs, thaw, fzAll, loA, hiA, elemOf, partsA, buildA, putCells, ↓reduceIte, reduceCtorEq, okCell, Nat.reduceAdd, Nat.reduceEqDiff, Nat.reduceSub, Nat.reduceMul, Nat.reduceLeDiff, Nat.reduceLT, Nat.reduceBEq, PV.scal, PV.scalL, SV.scal, SV.scalL, Ob.scal, PV.isCell, pure', resO]
      refine finA_gen [17] trivial (by simp [retA, rvA, mkE_cons, mk_nil, mkO_cons, mkO_nil, loadA, SV.tr, SV.trL, nmF, rn_nil, rn_cons1, rn_cons2, plainOb, SV.refsL, SV.refs, Ob.refs, X, F, List.range_succ, mkO, setO_mk]; rfl) ?_ ?_ ?_ ?_ ?_ ?_ ?_ <;> simp [retA, rvA, mkE_cons, mk_nil, mkO_cons, mkO_nil, loadA, SV.tr, SV.trL, nmF, rn_nil, rn_cons1, rn_cons2, plainOb, SV.refsL, SV.refs, Ob.refs, X, F, List.range_succ, mkO, setO_mk]
  · rename_i h2
    simp only [Option.some.injEq, Prod.mk.injEq] at h
    obtain ⟨rfl, rfl⟩ := h
    have h3 : ((sep.size : Int) != 1) = true := by simp; omega
    refine is.go hm hΓ k_SplitString o_SplitString (by simp [a_SplitString]) ?_
    simp only [a_SplitString, h1, h3, List.zipIdx_cons, List.zipIdx_nil, ↓SP, SQ, Gam.add, stepM, callC, argC, lendO, nmBy, nmC, likeL, likeB, plainOb, offs, exL, X, F, trP, trO, stepD, stepW, newA, SV.tr, SV.trL, fz, allP, Ob.tr, loadA, cellsA, SV.cells, binA, binI, eqOut, isSl, isPt, natOf, callee, snap, SV.refsL, SV.refs, thaw, fzAll, loA, hiA, elemOf, partsA, buildA, putCells, ↓reduceIte, reduceCtorEq, okCell, Nat.reduceAdd, Nat.reduceEqDiff, Nat.reduceSub, Nat.reduceMul, Nat.reduceLeDiff, Nat.reduceLT, Nat.reduceBEq, PV.scal, PV.scalL, SV.scal, SV.scalL, Ob.scal, PV.isCell, pure', resO]
    exact finA_val (by simp [retA, rvA, mkE_cons, mk_nil, mkO_cons, mkO_nil, loadA, SV.tr, SV.trL, nmF, rn_nil, rn_cons1, rn_cons2, plainOb, SV.refsL, SV.refs, Ob.refs, X, F, List.range_succ, mkO, setO_mk]) (by simp [SV.tr, SV.trL])
end Go.Proofs.Ytpobnchalcokoaa.Pam
