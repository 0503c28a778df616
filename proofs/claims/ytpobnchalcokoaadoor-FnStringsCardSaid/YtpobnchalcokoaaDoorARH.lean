/- A part of the proof that stands in this folder: a small machine whose steps are shown to be the steps of the model, or walks of functions by it. No condition of its own. -/
import Derived.Test.YtpobnchalcokoaaDoorPamZ
import Derived.Test.YtpobnchalcokoaaDoorPamT3
import Derived.Lib.Join
import Derived.Lib.Bytealg
import Derived.Lib.ItoaNum
import Derived.Lib.AtoiAll
import Derived.Test.YtpobnchalcokoaaDoorPamW
import Derived.Lib.LaidTab
set_option linter.unusedVariables false
set_option linter.unusedSimpArgs false
namespace Go.Proofs.YtpobnchalcokoaaDoor.Pam
open Go
abbrev Cu := Int × Int
def u8s (l : List Int) : List PV := l.map fun n => .int .u8 n
def isU : PV → Bool
  | .int .u8 n => decide (0 ≤ n) && decide (n ≤ 255)
  | _ => false
def ofU : PV → Int
  | .int _ n => n
  | _ => 0
def slU : PV → Option (List Int)
  | .sl 1 xs => if xs.all isU = true then some (xs.map ofU) else none
  | .nilsl => some []
  | _ => none
theorem isU_out : ∀ {xs : List PV}, xs.all isU = true → xs = u8s (xs.map ofU) ∧ ∀ x ∈ xs.map ofU, 0 ≤ x ∧ x ≤ 255
  | [], _ => ⟨rfl, by simp⟩
  | x :: r, h => by
    simp only [List.all_cons, Bool.and_eq_true] at h
    obtain ⟨h1, h2⟩ := isU_out (xs := r) h.2
    have h3 := h.1
    unfold isU at h3
    split at h3
    · rename_i n
      simp only [Bool.and_eq_true, decide_eq_true_eq] at h3
      refine ⟨?_, fun y hy => ?_⟩
      · simp only [List.map_cons, u8s, ofU] at h1 ⊢; rw [← h1]
      · simp only [List.map_cons, List.mem_cons] at hy
        rcases hy with rfl | hy
        · exact h3
        · exact h2 y hy
    · cases h3
theorem slU_out {v : PV} {l : List Int} (h : slU v = some l) : (v = .sl 1 (u8s l) ∨ (v = .nilsl ∧ l = [])) ∧ ∀ x ∈ l, 0 ≤ x ∧ x ≤ 255 := by
  unfold slU at h
  split at h
  · split at h
    · rename_i hs
      obtain ⟨h1, h2⟩ := isU_out hs
      injection h with h
      subst h
      rw [← h1]
      exact ⟨.inl rfl, h2⟩
    · cases h
  · injection h with h; subst h; exact ⟨.inr ⟨rfl, rfl⟩, by simp⟩
  · cases h
theorem u8s_len (l : List Int) : (u8s l).length = l.length := by simp [u8s]
theorem u8s_get {l : List Int} {i : Nat} (h : i < l.length) : (u8s l)[i]? = some (.int .u8 (l.getD i 0)) := by simp [u8s, h]
def nxB (l : List Int) (a : Int) : Int := if a < l.length then l.getD a.toNat 0 else 0
def nxS (l : List Int) (c : Cu) : Int := IntKind.u64.wrap (IntKind.u64.wrap (IntKind.u64.wrap (c.2 * 6364136223846793005) + IntKind.u64.wrap (nxB l c.1)) + 462197)
def nxR (l : List Int) (c : Cu) : Int := if c.1 + 1 ≤ l.length then nxB l c.1 else IntKind.i64.wrap (andW .u64 ((nxS l c).fdiv (2 ^ min (Int.toNat 40) IntKind.u64.bits)) 255)
def nxC (l : List Int) (c : Cu) : Cu := (c.1 + 1, nxS l c)
theorem nxB_b {l : List Int} (hl : ∀ x ∈ l, 0 ≤ x ∧ x ≤ 255) {a : Int} (h0 : 0 ≤ a) : 0 ≤ nxB l a ∧ nxB l a ≤ 255 := by
  unfold nxB
  split
  · rename_i h
    have : a.toNat < l.length := by omega
    rw [show l.getD a.toNat 0 = l[a.toNat] by simp [this]]
    exact hl _ (List.getElem_mem _)
  · omega
theorem and255 (x : Int) : 0 ≤ andW .u64 x 255 ∧ andW .u64 x 255 ≤ 255 := by
  have h : (BitVec.ofInt 64 x &&& BitVec.ofInt 64 255).toNat ≤ 255 := by
    rw [BitVec.toNat_and]
    exact Nat.le_trans Nat.and_le_right (by decide)
  show 0 ≤ IntKind.u64.wrap ((BitVec.ofInt 64 x &&& BitVec.ofInt 64 255).toNat : Int) ∧ IntKind.u64.wrap ((BitVec.ofInt 64 x &&& BitVec.ofInt 64 255).toNat : Int) ≤ 255
  generalize (BitVec.ofInt 64 x &&& BitVec.ofInt 64 255).toNat = n at h ⊢
  rw [IntKind.wrap_u64]
  omega
theorem nxR_b {l : List Int} (hl : ∀ x ∈ l, 0 ≤ x ∧ x ≤ 255) {c : Cu} (h0 : 0 ≤ c.1) : 0 ≤ nxR l c ∧ nxR l c ≤ 255 := by
  unfold nxR
  split
  · exact nxB_b hl h0
  · have := and255 ((nxS l c).fdiv (2 ^ min (Int.toNat 40) IntKind.u64.bits))
    rw [wrap64 (by omega) (by omega)]
    exact this
def a_next : AFn := ⟨1, 
  .seq (.reg [⟨some 2, none, .d (.mv (.c (.int .i64 0)))⟩])
  (.seq (.reg [⟨some 3, none, .d (.mv (.c (.int .i64 0)))⟩])
  (.seq (.seq (.dreg [] [([], ⟨some 4, none, .d (.mv (.t 0))⟩),
    ([], ⟨some 5, none, .d (.nilck (.t 4))⟩),
    ([], ⟨some 6, none, .d (.fa 1 (.t 5))⟩),
    ([], ⟨some 7, none, .d (.load false 1 (.t 6))⟩),
    ([], ⟨some 8, none, .d (.mv (.t 0))⟩),
    ([], ⟨some 9, none, .d (.nilck (.t 8))⟩),
    ([], ⟨some 10, none, .d (.fa 0 (.t 9))⟩),
    ([], ⟨some 11, none, .d (.load false 1 (.t 10))⟩),
    ([], ⟨some 12, none, .d (.len (.t 11))⟩)] [⟨some 13, none, .d (.bin .arith .lss (.t 7) (.t 12))⟩])
  (.cond (.t 13) (.dreg [] [([], ⟨some 14, none, .d (.mv (.t 0))⟩),
     ([], ⟨some 15, none, .d (.nilck (.t 14))⟩),
     ([], ⟨some 16, none, .d (.fa 0 (.t 15))⟩),
     ([], ⟨some 17, none, .d (.load false 1 (.t 16))⟩),
     ([], ⟨some 18, none, .d (.mv (.t 0))⟩),
     ([], ⟨some 19, none, .d (.nilck (.t 18))⟩),
     ([], ⟨some 20, none, .d (.fa 1 (.t 19))⟩),
     ([], ⟨some 21, none, .d (.load false 1 (.t 20))⟩)] [⟨some 22, none, .d (.ia 1 (.t 17) (.t 21))⟩,
     ⟨some 23, none, .d (.load false 1 (.t 22))⟩,
     ⟨some 24, none, .d (.conv .i64 (.t 23))⟩,
     ⟨some 3, none, .d (.mv (.t 24))⟩]) (.skip)))
  (.seq (.reg [⟨some 25, none, .d (.mv (.t 0))⟩,
    ⟨some 26, none, .d (.nilck (.t 25))⟩,
    ⟨some 27, none, .d (.fa 1 (.t 26))⟩,
    ⟨some 28, none, .d (.load false 1 (.t 27))⟩,
    ⟨some 29, none, .d (.bin .arith .add (.t 28) (.c (.int .i64 1)))⟩,
    ⟨some 30, none, .d (.nilck (.t 25))⟩,
    ⟨some 31, none, .d (.fa 1 (.t 30))⟩,
    ⟨none, none, .w (.store 1 (.t 31) (.t 29))⟩])
  (.seq (.reg [⟨some 32, none, .d (.mv (.t 0))⟩,
    ⟨some 33, none, .d (.mv (.t 0))⟩,
    ⟨some 34, none, .d (.nilck (.t 33))⟩,
    ⟨some 35, none, .d (.fa 2 (.t 34))⟩,
    ⟨some 36, none, .d (.load false 1 (.t 35))⟩,
    ⟨some 37, none, .d (.bin .arith .mul (.t 36) (.c (.int .u64 6364136223846793005)))⟩,
    ⟨some 38, none, .d (.mv (.t 3))⟩,
    ⟨some 39, none, .d (.conv .u64 (.t 38))⟩,
    ⟨some 40, none, .d (.bin .arith .add (.t 37) (.t 39))⟩,
    ⟨some 41, none, .d (.bin .arith .add (.t 40) (.c (.int .u64 462197)))⟩,
    ⟨some 42, none, .d (.nilck (.t 32))⟩,
    ⟨some 43, none, .d (.fa 2 (.t 42))⟩,
    ⟨none, none, .w (.store 1 (.t 43) (.t 41))⟩])
  (.seq (.seq (.dreg [] [([], ⟨some 44, none, .d (.mv (.t 0))⟩),
    ([], ⟨some 45, none, .d (.nilck (.t 44))⟩),
    ([], ⟨some 46, none, .d (.fa 1 (.t 45))⟩),
    ([], ⟨some 47, none, .d (.load false 1 (.t 46))⟩),
    ([], ⟨some 48, none, .d (.mv (.t 0))⟩),
    ([], ⟨some 49, none, .d (.nilck (.t 48))⟩),
    ([], ⟨some 50, none, .d (.fa 0 (.t 49))⟩),
    ([], ⟨some 51, none, .d (.load false 1 (.t 50))⟩),
    ([], ⟨some 52, none, .d (.len (.t 51))⟩)] [⟨some 53, none, .d (.bin .arith .leq (.t 47) (.t 52))⟩])
  (.cond (.t 53) (.seq (.reg [⟨some 54, none, .d (.mv (.t 3))⟩,
     ⟨some 2, none, .d (.mv (.t 54))⟩])
   (.ret)) (.skip)))
  (.seq (.reg [⟨some 55, none, .d (.mv (.t 0))⟩,
    ⟨some 56, none, .d (.nilck (.t 55))⟩,
    ⟨some 57, none, .d (.fa 2 (.t 56))⟩,
    ⟨some 58, none, .d (.load false 1 (.t 57))⟩,
    ⟨some 59, none, .d (.bin .arith .shr (.t 58) (.c (.int .u64 40)))⟩,
    ⟨some 60, none, .d (.bin .arith .and (.t 59) (.c (.int .u64 255)))⟩,
    ⟨some 61, none, .d (.conv .i64 (.t 60))⟩,
    ⟨some 2, none, .d (.mv (.t 61))⟩])
  (.ret))))))), [.tmp 2]⟩
def n_next : Nat → Option Ann := fun _ => none
abbrev k_next : List Nat := [0, 2, 3, 13, 53]
abbrev o_next : List Nat := []
def c_next : Con
  | [.bx 1000000 0], [.box [.p v, .p (.int .i64 a), .p (.int .u64 s)]] => match slU v with
    | some l => if 0 ≤ a ∧ a ≤ 1000000 then some (.p (.int .i64 (nxR l (a, s))), [.box [.p v, .p (.int .i64 (a + 1)), .p (.int .u64 (nxS l (a, s)))]], []) else none
    | none => none
  | _, _ => none
theorem s_next {P : Program} (hm : P.follows .mixedOrders = true) {Γ : Gam} (hΓ : GS P Γ) {n : FuncId} (is : Is P n a_next)  : Says P n c_next := by
  intro args ext r ext' fs h
  unfold c_next at h
  split at h
  case h_2 => cases h
  rename_i v a s
  split at h
  case h_2 => cases h
  rename_i l hv
  split at h
  case isFalse => cases h
  rename_i hc
  obtain ⟨h0, h1⟩ := hc
  simp only [Option.some.injEq, Prod.mk.injEq] at h
  obtain ⟨rfl, rfl, rfl⟩ := h
  obtain ⟨hv1, hr⟩ := slU_out hv
  have hw1 : IntKind.i64.wrap (a + 1) = a + 1 := wrap64 (by omega) (by omega)
  refine is.goX hm hΓ k_next (1000000 :: o_next) (by simp [a_next]) (by simp) ?_
  rcases hv1 with rfl | ⟨rfl, rfl⟩
  · by_cases hlt : a < l.length
    · have hn : ((a.toNat : Nat) : Int) = a := by omega
      have hb : l.getD a.toNat 0 = nxB l a := by simp [nxB, hlt]
      have hg := u8s_get (l := l) (i := a.toNat) (by omega)
      have hb2 := nxB_b hr h0
      have hw : IntKind.i64.wrap (nxB l a) = nxB l a := wrap64 (by omega) (by omega)
      rw [hb] at hg
      have h2 : a + 1 ≤ l.length := by omega
      simp only [a_next, u8s_len, hlt, hg, hw, hw1, h0, h2, shfI, List.zipIdx_cons, List.zipIdx_nil, ↓SP, SQ, Gam.add, stepM, callC, argC, lendO, nmBy, nmC, likeL, likeB, plainOb, offs, exL, X, F, trP, trO, stepD, stepW, newA, SV.tr, SV.trL, fz, allP, Ob.tr, loadA, cellsA, SV.cells, binA, binI, eqOut, isSl, isPt, natOf, callee, snap, SV.refsL, SV.refs, thaw, fzAll, loA, hiA, elemOf, partsA, buildA, putCells, ↓reduceIte, reduceCtorEq, okCell, Nat.reduceAdd, Nat.reduceEqDiff, Nat.reduceSub, Nat.reduceMul, Nat.reduceLeDiff, Nat.reduceLT, Nat.reduceBEq, PV.scal, PV.scalL, SV.scal, SV.scalL, Ob.scal, PV.isCell, pure', resO]
      have e1 : nxR l (a, s) = nxB l a := by simp [nxR, h2]
      rw [e1]
      refine finA_gen [] trivial (by simp [retA, rvA, mkE_cons, mk_nil, mkO_cons, mkO_nil, loadA, SV.tr, SV.trL, nmF, rn_nil, rn_cons1, rn_cons2, plainOb, SV.refsL, SV.refs, Ob.refs, X, F, List.range_succ, mkO, setO_mk]; rfl) ?_ ?_ ?_ ?_ ?_ ?_ ?_ <;> simp [nxS, retA, rvA, mkE_cons, mk_nil, mkO_cons, mkO_nil, loadA, SV.tr, SV.trL, nmF, rn_nil, rn_cons1, rn_cons2, plainOb, SV.refsL, SV.refs, Ob.refs, X, F, List.range_succ, mkO, setO_mk]
    · have hb : nxB l a = 0 := by simp [nxB, hlt]
      have hw : IntKind.i64.wrap 0 = 0 := rfl
      have h2 : ¬ a + 1 ≤ l.length := by omega
      simp only [a_next, u8s_len, hlt, hw1, h0, h2, shfI, Int.reduceLT, bitA_and, List.zipIdx_cons, List.zipIdx_nil, ↓SP, SQ, Gam.add, stepM, callC, argC, lendO, nmBy, nmC, likeL, likeB, plainOb, offs, exL, X, F, trP, trO, stepD, stepW, newA, SV.tr, SV.trL, fz, allP, Ob.tr, loadA, cellsA, SV.cells, binA, binI, eqOut, isSl, isPt, natOf, callee, snap, SV.refsL, SV.refs, thaw, fzAll, loA, hiA, elemOf, partsA, buildA, putCells, ↓reduceIte, reduceCtorEq, okCell, Nat.reduceAdd, Nat.reduceEqDiff, Nat.reduceSub, Nat.reduceMul, Nat.reduceLeDiff, Nat.reduceLT, Nat.reduceBEq, PV.scal, PV.scalL, SV.scal, SV.scalL, Ob.scal, PV.isCell, pure', resO]
      have e1 : nxR l (a, s) = IntKind.i64.wrap (andW .u64 ((nxS l (a, s)).fdiv (2 ^ min (Int.toNat 40) IntKind.u64.bits)) 255) := by simp only [nxR, h2, if_false]
      rw [e1]
      refine finA_gen [] trivial (by simp [retA, rvA, mkE_cons, mk_nil, mkO_cons, mkO_nil, loadA, SV.tr, SV.trL, nmF, rn_nil, rn_cons1, rn_cons2, plainOb, SV.refsL, SV.refs, Ob.refs, X, F, List.range_succ, mkO, setO_mk]; rfl) ?_ ?_ ?_ ?_ ?_ ?_ ?_ <;> simp [nxS, hb, retA, rvA, mkE_cons, mk_nil, mkO_cons, mkO_nil, loadA, SV.tr, SV.trL, nmF, rn_nil, rn_cons1, rn_cons2, plainOb, SV.refsL, SV.refs, Ob.refs, X, F, List.range_succ, mkO, setO_mk]
  · have hlt : ¬ a < (([] : List Int).length : Int) := by simp; omega
    have hlt' : ¬ a < ((0 : Nat) : Int) := by omega
    have hw : IntKind.i64.wrap 0 = 0 := rfl
    have hb : nxB [] a = 0 := by simp [nxB]
    have h2' : ¬ a + 1 ≤ ((0 : Nat) : Int) := by omega
    have h2 : ¬ a + 1 ≤ (([] : List Int).length : Int) := by simp; omega
    simp only [a_next, hlt', hw1, h0, h2', shfI, Int.reduceLT, bitA_and, List.zipIdx_cons, List.zipIdx_nil, ↓SP, SQ, Gam.add, stepM, callC, argC, lendO, nmBy, nmC, likeL, likeB, plainOb, offs, exL, X, F, trP, trO, stepD, stepW, newA, SV.tr, SV.trL, fz, allP, Ob.tr, loadA, cellsA, SV.cells, binA, binI, eqOut, isSl, isPt, natOf, callee, snap, SV.refsL, SV.refs, thaw, fzAll, loA, hiA, elemOf, partsA, buildA, putCells, ↓reduceIte, reduceCtorEq, okCell, Nat.reduceAdd, Nat.reduceEqDiff, Nat.reduceSub, Nat.reduceMul, Nat.reduceLeDiff, Nat.reduceLT, Nat.reduceBEq, PV.scal, PV.scalL, SV.scal, SV.scalL, Ob.scal, PV.isCell, pure', resO]
    have e1 : nxR [] (a, s) = IntKind.i64.wrap (andW .u64 ((nxS [] (a, s)).fdiv (2 ^ min (Int.toNat 40) IntKind.u64.bits)) 255) := by simp only [nxR, h2, if_false]
    rw [e1]
    refine finA_gen [] trivial (by simp [retA, rvA, mkE_cons, mk_nil, mkO_cons, mkO_nil, loadA, SV.tr, SV.trL, nmF, rn_nil, rn_cons1, rn_cons2, plainOb, SV.refsL, SV.refs, Ob.refs, X, F, List.range_succ, mkO, setO_mk]; rfl) ?_ ?_ ?_ ?_ ?_ ?_ ?_ <;> simp [nxS, hb, retA, rvA, mkE_cons, mk_nil, mkO_cons, mkO_nil, loadA, SV.tr, SV.trL, nmF, rn_nil, rn_cons1, rn_cons2, plainOb, SV.refsL, SV.refs, Ob.refs, X, F, List.range_succ, mkO, setO_mk]
def pkV (l : List Int) (n : Int) (c : Cu) : Int := if n ≤ 1 then 0 else (nxR l c).tmod n
def pkC (l : List Int) (n : Int) (c : Cu) : Cu := if n ≤ 1 then c else nxC l c
theorem pkV_b {l : List Int} (hl : ∀ x ∈ l, 0 ≤ x ∧ x ≤ 255) {n : Int} {c : Cu} (h0 : 0 ≤ c.1) : 0 ≤ pkV l n c ∧ (pkV l n c < n ∨ pkV l n c = 0) := by
  unfold pkV
  split
  · exact ⟨by omega, .inr rfl⟩
  · have := nxR_b hl h0
    exact ⟨Int.tmod_nonneg _ this.1, .inl (Int.tmod_lt_of_pos _ (by omega))⟩
/-- Where a cursor stands, at most. -/
def CuA (c : Cu) (b : Int) : Prop := 0 ≤ c.1 ∧ c.1 ≤ b
theorem CuA.pk {c : Cu} {b : Int} (h : CuA c b) (l : List Int) (n : Int) : CuA (pkC l n c) (b + 1) := by
  unfold pkC
  split
  · exact ⟨h.1, by have := h.2; omega⟩
  · exact ⟨by have := h.1; simp only [nxC]; omega, by have := h.2; simp only [nxC]; omega⟩
theorem CuA.mono {c : Cu} {b b' : Int} (h : CuA c b) (hb : b ≤ b') : CuA c b' := ⟨h.1, Int.le_trans h.2 hb⟩
/-- Drawn from two bytes. -/
def pkY (l : List Int) (n : Int) (c : Cu) : Int := (nxR l c * 256 + nxR l (nxC l c)).tmod n
def a_pick (f_next : FuncId) : AFn := ⟨2, 
  .seq (.reg [⟨some 4, none, .d (.mv (.c (.int .i64 0)))⟩])
  (.seq (.seq (.reg [⟨some 6, none, .d (.mv (.t 1))⟩,
    ⟨some 7, none, .d (.bin .arith .leq (.t 6) (.c (.int .i64 1)))⟩])
  (.cond (.t 7) (.seq (.reg [⟨some 4, none, .d (.mv (.c (.int .i64 0)))⟩])
   (.ret)) (.skip)))
  (.seq (.reg [⟨some 8, none, .d (.mv (.t 0))⟩,
    ⟨some 9, none, .w (.callL (.f f_next) [(.t 8)] [1000000] 0 false)⟩,
    ⟨some 5, none, .d (.mv (.t 9))⟩])
  (.seq (.seq (.reg [⟨some 10, none, .d (.mv (.t 1))⟩,
    ⟨some 11, none, .d (.bin .arith .gtr (.t 10) (.c (.int .i64 200)))⟩])
  (.cond (.t 11) (.reg [⟨some 12, none, .d (.mv (.t 5))⟩,
     ⟨some 13, none, .d (.bin .arith .mul (.t 12) (.c (.int .i64 256)))⟩,
     ⟨some 14, none, .d (.mv (.t 0))⟩,
     ⟨some 15, none, .w (.callL (.f f_next) [(.t 14)] [1000000] 0 false)⟩,
     ⟨some 16, none, .d (.bin .arith .add (.t 13) (.t 15))⟩,
     ⟨some 5, none, .d (.mv (.t 16))⟩]) (.skip)))
  (.seq (.reg [⟨some 17, none, .d (.mv (.t 5))⟩,
    ⟨some 18, none, .d (.mv (.t 1))⟩,
    ⟨some 19, none, .d (.bin .arith .rem (.t 17) (.t 18))⟩,
    ⟨some 4, none, .d (.mv (.t 19))⟩])
  (.ret))))), [.tmp 4]⟩
def n_pick : Nat → Option Ann := fun d => if d = 9 then some ⟨[1000000], 0, false⟩ else if d = 15 then some ⟨[1000000], 0, false⟩ else none
abbrev k_pick : List Nat := [0, 1, 4, 5, 7, 11]
abbrev o_pick : List Nat := []
def c_pick : Con
  | [.bx 1000000 0, .p (.int .i64 n)], [.box [.p v, .p (.int .i64 a), .p (.int .u64 s)]] => match slU v with
    | some l => if 0 ≤ a ∧ a ≤ 1000 ∧ (n ≤ 200 ∨ n ≤ 5000) then some (.p (.int .i64 (if n ≤ 200 then pkV l n (a, s) else pkY l n (a, s))), [.box [.p v, .p (.int .i64 (if n ≤ 200 then pkC l n (a, s) else nxC l (nxC l (a, s))).1), .p (.int .u64 (if n ≤ 200 then pkC l n (a, s) else nxC l (nxC l (a, s))).2)]], []) else none
    | none => none
  | _, _ => none
theorem s_pick {P : Program} (hm : P.follows .mixedOrders = true) {Γ : Gam} (hΓ : GS P Γ) {n : FuncId} {f_next : FuncId} (is : Is P n (a_pick f_next)) (h_next : Γ f_next = c_next)  : Says P n c_pick := by
  intro args ext r ext' fs h
  unfold c_pick at h
  split at h
  case h_2 => cases h
  rename_i n' v a s
  split at h
  case h_2 => cases h
  rename_i l hv
  split at h
  case isFalse => cases h
  rename_i hc
  obtain ⟨h0, h1, hn⟩ := hc
  simp only [Option.some.injEq, Prod.mk.injEq] at h
  obtain ⟨rfl, rfl, rfl⟩ := h
  refine is.goX hm hΓ k_pick (1000000 :: o_pick) (by simp [a_pick]) (by simp) ?_
  by_cases hle : n' ≤ 1
  · have h200 : n' ≤ 200 := by omega
    have e1 : pkV l n' (a, s) = 0 := by simp [pkV, hle]
    have e2 : pkC l n' (a, s) = (a, s) := by simp [pkC, hle]
    simp only [h200, if_true, e1, e2]
    simp only [a_pick, hle, List.zipIdx_cons, List.zipIdx_nil, ↓SP, SQ, Gam.add, stepM, callC, argC, lendO, nmBy, nmC, likeL, likeB, plainOb, offs, exL, X, F, trP, trO, stepD, stepW, newA, SV.tr, SV.trL, fz, allP, Ob.tr, loadA, cellsA, SV.cells, binA, binI, eqOut, isSl, isPt, natOf, callee, snap, SV.refsL, SV.refs, thaw, fzAll, loA, hiA, elemOf, partsA, buildA, putCells, ↓reduceIte, reduceCtorEq, okCell, Nat.reduceAdd, Nat.reduceEqDiff, Nat.reduceSub, Nat.reduceMul, Nat.reduceLeDiff, Nat.reduceLT, Nat.reduceBEq, PV.scal, PV.scalL, SV.scal, SV.scalL, Ob.scal, PV.isCell, pure', resO]
    refine finA_gen [] trivial (by simp [retA, rvA, mkE_cons, mk_nil, mkO_cons, mkO_nil, loadA, SV.tr, SV.trL, nmF, rn_nil, rn_cons1, rn_cons2, plainOb, SV.refsL, SV.refs, Ob.refs, X, F, List.range_succ, mkO, setO_mk]; rfl) ?_ ?_ ?_ ?_ ?_ ?_ ?_ <;> simp [retA, rvA, mkE_cons, mk_nil, mkO_cons, mkO_nil, loadA, SV.tr, SV.trL, nmF, rn_nil, rn_cons1, rn_cons2, plainOb, SV.refsL, SV.refs, Ob.refs, X, F, List.range_succ, mkO, setO_mk]
  · have h3 : a ≤ 1000000 := by omega
    have hb := nxR_b (slU_out hv).2 (c := (a, s)) h0
    have hz : ¬ n' = 0 := by omega
    by_cases h200 : n' ≤ 200
    · have h2 : ¬ n' > 200 := by omega
      have e1 : pkV l n' (a, s) = (nxR l (a, s)).tmod n' := by simp [pkV, hle]
      have e2 : pkC l n' (a, s) = (a + 1, nxS l (a, s)) := by simp [pkC, nxC, hle]
      simp only [h200, if_true, e1, e2]
      simp only [a_pick, h_next, c_next, hv, hle, h0, h3, h2, hz, List.zipIdx_cons, List.zipIdx_nil, ↓SP, SQ, Gam.add, stepM, callC, argC, lendO, nmBy, nmC, likeL, likeB, plainOb, offs, exL, X, F, trP, trO, stepD, stepW, newA, SV.tr, SV.trL, fz, allP, Ob.tr, loadA, cellsA, SV.cells, binA, binI, eqOut, isSl, isPt, natOf, callee, snap, SV.refsL, SV.refs, thaw, fzAll, loA, hiA, elemOf, partsA, buildA, putCells, ↓reduceIte, reduceCtorEq, okCell, Nat.reduceAdd, Nat.reduceEqDiff, Nat.reduceSub, Nat.reduceMul, Nat.reduceLeDiff, Nat.reduceLT, Nat.reduceBEq, PV.scal, PV.scalL, SV.scal, SV.scalL, Ob.scal, PV.isCell, pure', resO]
      refine finA_gen [] trivial (by simp [retA, rvA, mkE_cons, mk_nil, mkO_cons, mkO_nil, loadA, SV.tr, SV.trL, nmF, rn_nil, rn_cons1, rn_cons2, plainOb, SV.refsL, SV.refs, Ob.refs, X, F, List.range_succ, mkO, setO_mk]; rfl) ?_ ?_ ?_ ?_ ?_ ?_ ?_ <;> simp [retA, rvA, mkE_cons, mk_nil, mkO_cons, mkO_nil, loadA, SV.tr, SV.trL, nmF, rn_nil, rn_cons1, rn_cons2, plainOb, SV.refsL, SV.refs, Ob.refs, X, F, List.range_succ, mkO, setO_mk]
    · have h2 : n' > 200 := by omega
      have hb2 := nxR_b (slU_out hv).2 (c := nxC l (a, s)) (by simp only [nxC]; omega)
      have h4 : 0 ≤ a + 1 := by omega
      have h5 : a + 1 ≤ 1000000 := by omega
      have e1 : pkY l n' (a, s) = (nxR l (a, s) * 256 + nxR l (a + 1, nxS l (a, s))).tmod n' := rfl
      have e2 : nxC l (nxC l (a, s)) = (a + 1 + 1, nxS l (a + 1, nxS l (a, s))) := rfl
      have hcx : nxC l (a, s) = (a + 1, nxS l (a, s)) := rfl
      rw [hcx] at hb2
      have w1 : IntKind.i64.wrap (nxR l (a, s) * 256) = nxR l (a, s) * 256 := wrap64 (by omega) (by omega)
      have w2 : IntKind.i64.wrap (nxR l (a, s) * 256 + nxR l (a + 1, nxS l (a, s))) = nxR l (a, s) * 256 + nxR l (a + 1, nxS l (a, s)) := wrap64 (by omega) (by omega)
      simp only [h200, if_false, e1, e2]
      simp only [a_pick, h_next, c_next, hv, hle, h0, h3, h4, h5, h2, hz, w1, w2, List.zipIdx_cons, List.zipIdx_nil, ↓SP, SQ, Gam.add, stepM, callC, argC, lendO, nmBy, nmC, likeL, likeB, plainOb, offs, exL, X, F, trP, trO, stepD, stepW, newA, SV.tr, SV.trL, fz, allP, Ob.tr, loadA, cellsA, SV.cells, binA, binI, eqOut, isSl, isPt, natOf, callee, snap, SV.refsL, SV.refs, thaw, fzAll, loA, hiA, elemOf, partsA, buildA, putCells, ↓reduceIte, reduceCtorEq, okCell, Nat.reduceAdd, Nat.reduceEqDiff, Nat.reduceSub, Nat.reduceMul, Nat.reduceLeDiff, Nat.reduceLT, Nat.reduceBEq, PV.scal, PV.scalL, SV.scal, SV.scalL, Ob.scal, PV.isCell, pure', resO]
      refine finA_gen [] trivial (by simp [retA, rvA, mkE_cons, mk_nil, mkO_cons, mkO_nil, loadA, SV.tr, SV.trL, nmF, rn_nil, rn_cons1, rn_cons2, plainOb, SV.refsL, SV.refs, Ob.refs, X, F, List.range_succ, mkO, setO_mk]; rfl) ?_ ?_ ?_ ?_ ?_ ?_ ?_ <;> simp [retA, rvA, mkE_cons, mk_nil, mkO_cons, mkO_nil, loadA, SV.tr, SV.trL, nmF, rn_nil, rn_cons1, rn_cons2, plainOb, SV.refsL, SV.refs, Ob.refs, X, F, List.range_succ, mkO, setO_mk]
def a_one (f_pick : FuncId) : AFn := ⟨2, 
  .seq (.reg [⟨some 4, none, .d (.mv (.c (.bool false)))⟩])
  (.seq (.reg [⟨some 5, none, .d (.mv (.t 0))⟩,
    ⟨some 6, none, .d (.mv (.t 1))⟩,
    ⟨some 7, none, .w (.callL (.f f_pick) [(.t 5), (.t 6)] [1000000] 0 false)⟩,
    ⟨some 8, none, .d (.bin .arith .eql (.t 7) (.c (.int .i64 0)))⟩,
    ⟨some 4, none, .d (.mv (.t 8))⟩])
  (.ret)), [.tmp 4]⟩
def n_one : Nat → Option Ann := fun d => if d = 7 then some ⟨[1000000], 0, false⟩ else none
abbrev k_one : List Nat := [0, 1, 4]
abbrev o_one : List Nat := []
def c_one : Con
  | [.bx 1000000 0, .p (.int .i64 n)], [.box [.p v, .p (.int .i64 a), .p (.int .u64 s)]] => match slU v with
    | some l => if 0 ≤ a ∧ a ≤ 1000 ∧ n ≤ 200 then some (.p (.bool (pkV l n (a, s) == 0)), [.box [.p v, .p (.int .i64 (pkC l n (a, s)).1), .p (.int .u64 (pkC l n (a, s)).2)]], []) else none
    | none => none
  | _, _ => none
theorem s_one {P : Program} (hm : P.follows .mixedOrders = true) {Γ : Gam} (hΓ : GS P Γ) {n : FuncId} {f_pick : FuncId} (is : Is P n (a_one f_pick)) (h_pick : Γ f_pick = c_pick)  : Says P n c_one := by
  intro args ext r ext' fs h
  unfold c_one at h
  split at h
  case h_2 => cases h
  rename_i n' v a s
  split at h
  case h_2 => cases h
  rename_i l hv
  split at h
  case isFalse => cases h
  rename_i hc
  obtain ⟨h0, h1, hn⟩ := hc
  simp only [Option.some.injEq, Prod.mk.injEq] at h
  obtain ⟨rfl, rfl, rfl⟩ := h
  refine is.goX hm hΓ k_one (1000000 :: o_one) (by simp [a_one]) (by simp) ?_
  simp only [a_one, h_pick, c_pick, hv, h0, h1, hn, List.zipIdx_cons, List.zipIdx_nil, ↓SP, SQ, Gam.add, stepM, callC, argC, lendO, nmBy, nmC, likeL, likeB, plainOb, offs, exL, X, F, trP, trO, stepD, stepW, newA, SV.tr, SV.trL, fz, allP, Ob.tr, loadA, cellsA, SV.cells, binA, binI, eqOut, isSl, isPt, natOf, callee, snap, SV.refsL, SV.refs, thaw, fzAll, loA, hiA, elemOf, partsA, buildA, putCells, ↓reduceIte, reduceCtorEq, okCell, Nat.reduceAdd, Nat.reduceEqDiff, Nat.reduceSub, Nat.reduceMul, Nat.reduceLeDiff, Nat.reduceLT, Nat.reduceBEq, PV.scal, PV.scalL, SV.scal, SV.scalL, Ob.scal, PV.isCell, pure', resO]
  refine finA_gen [] trivial (by simp [retA, rvA, mkE_cons, mk_nil, mkO_cons, mkO_nil, loadA, SV.tr, SV.trL, nmF, rn_nil, rn_cons1, rn_cons2, plainOb, SV.refsL, SV.refs, Ob.refs, X, F, List.range_succ, mkO, setO_mk]; rfl) ?_ ?_ ?_ ?_ ?_ ?_ ?_ <;> simp [retA, rvA, mkE_cons, mk_nil, mkO_cons, mkO_nil, loadA, SV.tr, SV.trL, nmF, rn_nil, rn_cons1, rn_cons2, plainOb, SV.refsL, SV.refs, Ob.refs, X, F, List.range_succ, mkO, setO_mk]
def a_among (f_pick : FuncId) : AFn := ⟨2, 
  .seq (.reg [⟨some 4, none, .d (.mv (.c (.int .i64 0)))⟩])
  (.seq (.reg [⟨some 5, none, .d (.mv (.t 1))⟩,
    ⟨some 6, none, .d (.mv (.t 0))⟩,
    ⟨some 7, none, .d (.mv (.t 1))⟩,
    ⟨some 8, none, .d (.len (.t 7))⟩,
    ⟨some 9, none, .w (.callL (.f f_pick) [(.t 6), (.t 8)] [1000000] 0 false)⟩,
    ⟨some 10, none, .d (.ia 1 (.t 5) (.t 9))⟩,
    ⟨some 11, none, .d (.load false 1 (.t 10))⟩,
    ⟨some 4, none, .d (.mv (.t 11))⟩])
  (.ret)), [.tmp 4]⟩
def n_among : Nat → Option Ann := fun d => if d = 9 then some ⟨[1000000], 0, false⟩ else none
abbrev k_among : List Nat := [0, 1, 4]
abbrev o_among : List Nat := []
def amV (l xs : List Int) (c : Cu) : Int := xs.getD (pkV l xs.length c).toNat 0
def c_among : Con
  | [.bx 1000000 0, .p (.sl 1 xs)], [.box [.p v, .p (.int .i64 a), .p (.int .u64 s)]] => match slU v with
    | some l => if 0 ≤ a ∧ a ≤ 1000 ∧ 1 ≤ xs.length ∧ xs.length ≤ 200 ∧ isI xs = true then some (.p (.int .i64 (amV l (ofI xs) (a, s))), [.box [.p v, .p (.int .i64 (pkC l xs.length (a, s)).1), .p (.int .u64 (pkC l xs.length (a, s)).2)]], []) else none
    | none => none
  | _, _ => none
theorem s_among {P : Program} (hm : P.follows .mixedOrders = true) {Γ : Gam} (hΓ : GS P Γ) {n : FuncId} {f_pick : FuncId} (is : Is P n (a_among f_pick)) (h_pick : Γ f_pick = c_pick)  : Says P n c_among := by
  intro args ext r ext' fs h
  unfold c_among at h
  split at h
  case h_2 => cases h
  rename_i xs v a s
  split at h
  case h_2 => cases h
  rename_i l hv
  split at h
  case isFalse => cases h
  rename_i hc
  obtain ⟨h0, h1, hl1, hl2, hi⟩ := hc
  obtain ⟨xs, rfl⟩ := isI_out hi
  simp only [Option.some.injEq, Prod.mk.injEq, ofI_ints, ints_len] at h hl1 hl2
  obtain ⟨rfl, rfl, rfl⟩ := h
  have hb := pkV_b (slU_out hv).2 (n := (xs.length : Int)) (c := (a, s)) h0
  have hn : (xs.length : Int) ≤ 200 := by omega
  have hb0 := hb.1
  have hg := ints_get (l := xs) (i := (pkV l (xs.length : Int) (a, s)).toNat) (by omega)
  refine is.goX hm hΓ k_among (1000000 :: o_among) (by simp [a_among]) (by simp) ?_
  simp only [a_among, h_pick, c_pick, hv, h0, h1, hn, hb0, hg, List.zipIdx_cons, List.zipIdx_nil, ↓SP, SQ, Gam.add, stepM, callC, argC, lendO, nmBy, nmC, likeL, likeB, plainOb, offs, exL, X, F, trP, trO, stepD, stepW, newA, SV.tr, SV.trL, fz, allP, Ob.tr, loadA, cellsA, SV.cells, binA, binI, eqOut, isSl, isPt, natOf, callee, snap, SV.refsL, SV.refs, thaw, fzAll, loA, hiA, elemOf, partsA, buildA, putCells, ↓reduceIte, reduceCtorEq, okCell, Nat.reduceAdd, Nat.reduceEqDiff, Nat.reduceSub, Nat.reduceMul, Nat.reduceLeDiff, Nat.reduceLT, Nat.reduceBEq, PV.scal, PV.scalL, SV.scal, SV.scalL, Ob.scal, PV.isCell, pure', resO]
  refine finA_gen [] trivial (by simp [retA, rvA, mkE_cons, mk_nil, mkO_cons, mkO_nil, loadA, SV.tr, SV.trL, nmF, rn_nil, rn_cons1, rn_cons2, plainOb, SV.refsL, SV.refs, Ob.refs, X, F, List.range_succ, mkO, setO_mk]; rfl) ?_ ?_ ?_ ?_ ?_ ?_ ?_ <;> simp [amV, retA, rvA, mkE_cons, mk_nil, mkO_cons, mkO_nil, loadA, SV.tr, SV.trL, nmF, rn_nil, rn_cons1, rn_cons2, plainOb, SV.refsL, SV.refs, Ob.refs, X, F, List.range_succ, mkO, setO_mk]
abbrev By := {n : Int // 0 ≤ n ∧ n ≤ 255}
instance : Inhabited By := ⟨⟨0, by omega⟩⟩
def byE (n : By) : PV := .int .u8 n.1
theorem slU_bys (l : List By) : slU (.sl 1 (l.map byE)) = some (l.map Subtype.val) := by
  have h1 : (l.map byE).all isU = true := by
    simp only [List.all_map, List.all_eq_true, Function.comp_def, byE, isU]
    intro x _
    have := x.2
    simp [this.1, this.2]
  simp only [slU, h1, if_true]
  simp [ofU, byE, Function.comp_def]
theorem open_bytes' {H : Type} {enc : TypeId × Value → H} {P : Program} {W : World} {sp : Nat → Bool} {b0 : Nat} {t e : TypeId} (ht : P.underlying t = some (.slice e)) (he : P.underlying e = some (.int .u8)) (hc : P.cellsOf e = 1) {v : Value} {fuel : Nat} {x : DataW H × List MemPlace} (hval : Cell.okWide P W .any b0 t v)
    (h : DataW.trod enc P W 0 sp true fuel t [v] = some x) : ∃ (pv : PV) (l : List Int), slU pv = some l ∧ l.length ≤ 9223372036854775807 ∧ PR W (All W) pv v := by
  rcases open_sl (α := By) (φ := byE) (fun _ => rfl) ht hc (fun cs y n hy hcl => by
    obtain ⟨c, rfl⟩ : ∃ c, cs = [c] := List.length_eq_one_iff.1 hcl
    obtain ⟨m, h1, _, w⟩ := DataW.trod_int he hy
    injection h1 with h1; subst h1
    simp only [Lit.wf, Bool.and_eq_true, decide_eq_true_eq] at w
    have w1 : (0 : Int) ≤ m := w.1
    have w2 : m ≤ 255 := w.2
    exact ⟨⟨m, w1, w2⟩, fun i hi => by simp [byE, PV.cells] at hi; subst hi; exact .int _ _⟩) hval h with ⟨l, hl, hp⟩ | hv
  · exact ⟨.sl 1 (l.map byE), l.map Subtype.val, slU_bys l, by simpa using hl, hp⟩
  · exact ⟨.nilsl, [], rfl, by simp, by rw [hv]; exact .nilsl⟩
theorem open_bytesV {H : Type} {enc : TypeId × Value → H} {P : Program} {W : World} {sp : Nat → Bool} {b0 : Nat} {t e : TypeId} (ht : P.underlying t = some (.slice e)) (he : P.underlying e = some (.int .u8)) (hc : P.cellsOf e = 1) {v : Value} {d : DataW H} {p : List MemPlace} (hv : Value.okWide P W .any b0 t v)
    (h : DataW.Trod enc P W 0 sp true t v d p) : ∃ (pv : PV) (l : List Int), slU pv = some l ∧ l.length ≤ 9223372036854775807 ∧ PR W (All W) pv v := by
  obtain ⟨fuel, hf⟩ := trod_slice_cells ht hv h
  exact open_bytes' ht he hc (cell_slice ht hv) hf
theorem cuEta (c : Cu) : (c.1, c.2) = c := rfl
theorem amV_mem {l xs : List Int} (hl : ∀ x ∈ l, 0 ≤ x ∧ x ≤ 255) {c : Cu} (h0 : 0 ≤ c.1) (hx : 1 ≤ xs.length) : amV l xs c ∈ xs := by
  have hb := pkV_b hl (n := (xs.length : Int)) (c := c) h0
  have hlt : (pkV l (xs.length : Int) c).toNat < xs.length := by omega
  unfold amV
  rw [show xs.getD (pkV l (xs.length : Int) c).toNat 0 = xs[(pkV l (xs.length : Int) c).toNat] by simp [hlt]]
  exact List.getElem_mem _
theorem slU_cells {v : PV} {l : List Int} (h : slU v = some l) : v.cells = [v] := by
  rcases (slU_out h).1 with rfl | ⟨rfl, rfl⟩ <;> rfl
theorem slU_isCell {v : PV} {l : List Int} (h : slU v = some l) : v.isCell = true := by
  rcases (slU_out h).1 with rfl | ⟨rfl, rfl⟩ <;> rfl
theorem cu0 (b : Int) (hb : 0 ≤ b) : CuA (0, 0) b := ⟨Int.le_refl _, hb⟩
def a_vBig : AFn := ⟨1, 
  .seq (.reg [⟨some 2, none, .d (.mv (.c (.bool false)))⟩])
  (.seq (.reg [⟨some 3, none, .d (.mv (.t 0))⟩,
    ⟨some 4, none, .d (.len (.t 3))⟩,
    ⟨some 5, none, .d (.bin .arith .gtr (.t 4) (.c (.int .i64 65536)))⟩,
    ⟨some 2, none, .d (.mv (.t 5))⟩])
  (.ret)), [.tmp 2]⟩
def n_vBig : Nat → Option Ann := fun _ => none
abbrev k_vBig : List Nat := [0, 2]
abbrev o_vBig : List Nat := []
def c_vBig : Con := pure' fun
  | [.p v] => match slU v with
    | some l => some (.p (.bool (decide (l.length > 65536))), [])
    | none => none
  | _ => none
theorem slU_len' {v : PV} {l : List Int} (h : slU v = some l) (O : Objs) : lenA O (.p v) = some l.length := by
  rcases (slU_out h).1 with rfl | ⟨rfl, rfl⟩
  · simp [lenA, u8s_len]
  · simp [lenA]
theorem s_vBig {P : Program} (hm : P.follows .mixedOrders = true) {Γ : Gam} (hΓ : GS P Γ) {n : FuncId} (is : Is P n a_vBig)  : Says P n c_vBig := by
  refine Says.pure fun args r fs h => ?_
  split at h
  case h_2 => cases h
  rename_i v
  split at h
  case h_2 => cases h
  rename_i l hv
  simp only [Option.some.injEq, Prod.mk.injEq] at h
  obtain ⟨rfl, rfl⟩ := h
  have hlv := slU_len' hv
  by_cases hk : l.length > 65536
  · have h2 : (l.length : Int) > 65536 := by omega
    refine is.go hm hΓ k_vBig o_vBig (by simp [a_vBig]) ?_
    simp only [a_vBig, hlv, h2, List.zipIdx_cons, List.zipIdx_nil, ↓SP, SQ, Gam.add, stepM, callC, argC, lendO, nmBy, nmC, likeL, likeB, plainOb, offs, exL, X, F, trP, trO, stepD, stepW, newA, SV.tr, SV.trL, fz, allP, Ob.tr, loadA, cellsA, SV.cells, binA, binI, eqOut, isSl, isPt, natOf, callee, snap, SV.refsL, SV.refs, thaw, fzAll, loA, hiA, elemOf, partsA, buildA, putCells, ↓reduceIte, reduceCtorEq, okCell, Nat.reduceAdd, Nat.reduceEqDiff, Nat.reduceSub, Nat.reduceMul, Nat.reduceLeDiff, Nat.reduceLT, Nat.reduceBEq, PV.scal, PV.scalL, SV.scal, SV.scalL, Ob.scal, PV.isCell, pure', resO]
    exact finA_val (by simp [hk, retA, rvA, mkE_cons, mk_nil, mkO_cons, mkO_nil, loadA, SV.tr, SV.trL, nmF, rn_nil, rn_cons1, rn_cons2, plainOb, SV.refsL, SV.refs, Ob.refs, X, F, List.range_succ, mkO, setO_mk]) (by simp [SV.tr, SV.trL])
  · have h2 : ¬ (l.length : Int) > 65536 := by omega
    refine is.go hm hΓ k_vBig o_vBig (by simp [a_vBig]) ?_
    simp only [a_vBig, hlv, h2, List.zipIdx_cons, List.zipIdx_nil, ↓SP, SQ, Gam.add, stepM, callC, argC, lendO, nmBy, nmC, likeL, likeB, plainOb, offs, exL, X, F, trP, trO, stepD, stepW, newA, SV.tr, SV.trL, fz, allP, Ob.tr, loadA, cellsA, SV.cells, binA, binI, eqOut, isSl, isPt, natOf, callee, snap, SV.refsL, SV.refs, thaw, fzAll, loA, hiA, elemOf, partsA, buildA, putCells, ↓reduceIte, reduceCtorEq, okCell, Nat.reduceAdd, Nat.reduceEqDiff, Nat.reduceSub, Nat.reduceMul, Nat.reduceLeDiff, Nat.reduceLT, Nat.reduceBEq, PV.scal, PV.scalL, SV.scal, SV.scalL, Ob.scal, PV.isCell, pure', resO]
    exact finA_val (by simp [hk, retA, rvA, mkE_cons, mk_nil, mkO_cons, mkO_nil, loadA, SV.tr, SV.trL, nmF, rn_nil, rn_cons1, rn_cons2, plainOb, SV.refsL, SV.refs, Ob.refs, X, F, List.range_succ, mkO, setO_mk]) (by simp [SV.tr, SV.trL])
def strs (l : List ByteArray) : List PV := l.map .str
def isS1 : PV → Bool
  | .str _ => true
  | _ => false
def isStr (xs : List PV) : Bool := xs.all isS1
def ofS1 : PV → ByteArray
  | .str s => s
  | _ => ⟨#[]⟩
def ofSt (xs : List PV) : List ByteArray := xs.map ofS1
theorem isStr_out : ∀ {xs : List PV}, isStr xs = true → ∃ l, xs = strs l
  | [], _ => ⟨[], rfl⟩
  | x :: r, h => by
    simp only [isStr, List.all_cons, Bool.and_eq_true] at h
    obtain ⟨l, hl⟩ := isStr_out (xs := r) h.2
    have h1 := h.1
    unfold isS1 at h1
    split at h1
    · rename_i s
      exact ⟨s :: l, by rw [hl]; rfl⟩
    · cases h1
theorem ofSt_strs (l : List ByteArray) : ofSt (strs l) = l := by
  induction l with
  | nil => rfl
  | cons a l ih => simpa [ofSt, strs, ofS1] using ih
theorem strs_len (l : List ByteArray) : (strs l).length = l.length := by simp [strs]
theorem strs_get {l : List ByteArray} {i : Nat} (h : i < l.length) : (strs l)[i]? = some (.str (l.getD i ⟨#[]⟩)) := by simp [strs, h]
theorem pc_str {P : Program} {f : FuncId} (hc : callable P f) {args : List SV} {r : PV} (hr : ∀ w S x, r.scal = true → PR w S r x → True)
    (h : ∀ (w : World) (S : Nat → Prop) (vals : Array Value), vals.size = args.length → (∀ i (hi : i < args.length), ∃ β, SR w S β (resO [] []) args[i] (vals.getD i undef)) → (∀ b, S b → b < w.heap.size) →
      Calls P f vals w fun e w' => ∃ x, e = .returned x ∧ Go.RowKit.Below w.heap.size w w' ∧ ∀ w'' S'', PR w'' S'' r x) : PC P f args [] (.p r) [] [] := by
  refine ⟨hc, fun w S β vals hrel hsz hv => ?_⟩
  refine (h w S vals hsz (fun i hi => ⟨β, hv i hi⟩) fun b hb => (hrel.sep b hb).1).mono fun e w' ⟨x, he, hb, hx⟩ => ⟨x, S, β, he, Fr.of hb.os hb.tape hb.output hb.size fun b hlt => hb.block b hlt, fun b h => h, fun b h => .inl h, fun i hi => by simp at hi, fun j hj => by simp at hj, rfl, ?_, .p _ _ (hx _ _)⟩
  rw [resG_nil]
  exact Rel.empty fun b hS => Nat.lt_of_lt_of_le (hrel.sep b hS).1 hb.size
def amS (l : List Int) (ss : List ByteArray) (c : Cu) : ByteArray := ss.getD (pkV l ss.length c).toNat ⟨#[]⟩
theorem amS_mem {l : List Int} {ss : List ByteArray} (hl : ∀ x ∈ l, 0 ≤ x ∧ x ≤ 255) {c : Cu} (h0 : 0 ≤ c.1) (hx : 1 ≤ ss.length) : amS l ss c ∈ ss := by
  have hb := pkV_b hl (n := (ss.length : Int)) (c := c) h0
  have hlt : (pkV l (ss.length : Int) c).toNat < ss.length := by omega
  unfold amS
  rw [show ss.getD (pkV l (ss.length : Int) c).toNat ⟨#[]⟩ = ss[(pkV l (ss.length : Int) c).toNat] by simp [hlt]]
  exact List.getElem_mem _
def a_ofT (f_pick : FuncId) : AFn := ⟨2, 
  .seq (.reg [⟨some 4, none, .d (.mv (.c (.str ⟨#[]⟩)))⟩])
  (.seq (.reg [⟨some 5, none, .d (.mv (.t 1))⟩,
    ⟨some 6, none, .d (.mv (.t 0))⟩,
    ⟨some 7, none, .d (.mv (.t 1))⟩,
    ⟨some 8, none, .d (.len (.t 7))⟩,
    ⟨some 9, none, .w (.callL (.f f_pick) [(.t 6), (.t 8)] [1000000] 0 false)⟩,
    ⟨some 10, none, .d (.ia 1 (.t 5) (.t 9))⟩,
    ⟨some 11, none, .d (.load false 1 (.t 10))⟩,
    ⟨some 4, none, .d (.mv (.t 11))⟩])
  (.ret)), [.tmp 4]⟩
def n_ofT : Nat → Option Ann := fun d => if d = 9 then some ⟨[1000000], 0, false⟩ else none
abbrev k_ofT : List Nat := [0, 1, 4]
abbrev o_ofT : List Nat := []
def c_ofT : Con
  | [.bx 1000000 0, .p (.sl 1 xs)], [.box [.p v, .p (.int .i64 a), .p (.int .u64 s)]] => match slU v with
    | some l => if 0 ≤ a ∧ a ≤ 1000 ∧ 1 ≤ xs.length ∧ xs.length ≤ 200 ∧ isStr xs = true then some (.p (.str (amS l (ofSt xs) (a, s))), [.box [.p v, .p (.int .i64 (pkC l xs.length (a, s)).1), .p (.int .u64 (pkC l xs.length (a, s)).2)]], []) else none
    | none => none
  | _, _ => none
theorem s_ofT {P : Program} (hm : P.follows .mixedOrders = true) {Γ : Gam} (hΓ : GS P Γ) {n : FuncId} {f_pick : FuncId} (is : Is P n (a_ofT f_pick)) (h_pick : Γ f_pick = c_pick)  : Says P n c_ofT := by
  intro args ext r ext' fs h
  unfold c_ofT at h
  split at h
  case h_2 => cases h
  rename_i xs v a s
  split at h
  case h_2 => cases h
  rename_i l hv
  split at h
  case isFalse => cases h
  rename_i hc
  obtain ⟨h0, h1, hl1, hl2, hi⟩ := hc
  obtain ⟨xs, rfl⟩ := isStr_out hi
  simp only [Option.some.injEq, Prod.mk.injEq, ofSt_strs, strs_len] at h hl1 hl2
  obtain ⟨rfl, rfl, rfl⟩ := h
  have hb := pkV_b (slU_out hv).2 (n := (xs.length : Int)) (c := (a, s)) h0
  have hn : (xs.length : Int) ≤ 200 := by omega
  have hb0 := hb.1
  have hg := strs_get (l := xs) (i := (pkV l (xs.length : Int) (a, s)).toNat) (by omega)
  refine is.goX hm hΓ k_ofT (1000000 :: o_ofT) (by simp [a_ofT]) (by simp) ?_
  simp only [a_ofT, h_pick, c_pick, hv, h0, h1, hn, hb0, hg, strs_len, List.zipIdx_cons, List.zipIdx_nil, ↓SP, SQ, Gam.add, stepM, callC, argC, lendO, nmBy, nmC, likeL, likeB, plainOb, offs, exL, X, F, trP, trO, stepD, stepW, newA, SV.tr, SV.trL, fz, allP, Ob.tr, loadA, cellsA, SV.cells, binA, binI, eqOut, isSl, isPt, natOf, callee, snap, SV.refsL, SV.refs, thaw, fzAll, loA, hiA, elemOf, partsA, buildA, putCells, ↓reduceIte, reduceCtorEq, okCell, Nat.reduceAdd, Nat.reduceEqDiff, Nat.reduceSub, Nat.reduceMul, Nat.reduceLeDiff, Nat.reduceLT, Nat.reduceBEq, PV.scal, PV.scalL, SV.scal, SV.scalL, Ob.scal, PV.isCell, pure', resO]
  refine finA_gen [] trivial (by simp [retA, rvA, mkE_cons, mk_nil, mkO_cons, mkO_nil, loadA, SV.tr, SV.trL, nmF, rn_nil, rn_cons1, rn_cons2, plainOb, SV.refsL, SV.refs, Ob.refs, X, F, List.range_succ, mkO, setO_mk]; rfl) ?_ ?_ ?_ ?_ ?_ ?_ ?_ <;> simp [amS, retA, rvA, mkE_cons, mk_nil, mkO_cons, mkO_nil, loadA, SV.tr, SV.trL, nmF, rn_nil, rn_cons1, rn_cons2, plainOb, SV.refsL, SV.refs, Ob.refs, X, F, List.range_succ, mkO, setO_mk]
def anL : List ByteArray := [⟨#[]⟩, ⟨#[97]⟩, ⟨#[97, 44, 98]⟩, ⟨#[115, 111, 109, 101, 32, 119, 111, 114, 100, 115]⟩, ⟨#[120, 35, 121]⟩, ⟨#[45, 49, 50]⟩, ⟨#[0, 255]⟩, ⟨#[44, 44]⟩, ⟨#[48]⟩]
def a_any1 (f_ofT : FuncId) : AFn := ⟨1, 
  .seq (.reg [⟨some 2, none, .d (.mv (.c (.str ⟨#[]⟩)))⟩])
  (.seq (.reg [⟨some 3, none, .d (.mv (.t 0))⟩,
    ⟨some 4, none, .w (.bslice 1 [.str ⟨#[]⟩, .str ⟨#[]⟩, .str ⟨#[]⟩, .str ⟨#[]⟩, .str ⟨#[]⟩, .str ⟨#[]⟩, .str ⟨#[]⟩, .str ⟨#[]⟩, .str ⟨#[]⟩] [(0, (.c (.str ⟨#[]⟩))), (1, (.c (.str ⟨#[97]⟩))), (2, (.c (.str ⟨#[97, 44, 98]⟩))), (3, (.c (.str ⟨#[115, 111, 109, 101, 32, 119, 111, 114, 100, 115]⟩))), (4, (.c (.str ⟨#[120, 35, 121]⟩))), (5, (.c (.str ⟨#[45, 49, 50]⟩))), (6, (.c (.str ⟨#[0, 255]⟩))), (7, (.c (.str ⟨#[44, 44]⟩))), (8, (.c (.str ⟨#[48]⟩)))])⟩,
    ⟨some 5, none, .w (.callL (.f f_ofT) [(.t 3), (.t 4)] [1000000] 0 true)⟩,
    ⟨some 2, none, .d (.mv (.t 5))⟩])
  (.ret)), [.tmp 2]⟩
def n_any1 : Nat → Option Ann := fun d => if d = 5 then some ⟨[1000000], 0, true⟩ else none
abbrev k_any1 : List Nat := [0, 2]
abbrev o_any1 : List Nat := [4]
def c_any1 : Con
  | [.bx 1000000 0], [.box [.p v, .p (.int .i64 a), .p (.int .u64 s)]] => match slU v with
    | some l => if 0 ≤ a ∧ a ≤ 1000 then some (.p (.str (amS l anL (a, s))), [.box [.p v, .p (.int .i64 (pkC l 9 (a, s)).1), .p (.int .u64 (pkC l 9 (a, s)).2)]], []) else none
    | none => none
  | _, _ => none
theorem s_any1 {P : Program} (hm : P.follows .mixedOrders = true) {Γ : Gam} (hΓ : GS P Γ) {n : FuncId} {f_ofT : FuncId} (is : Is P n (a_any1 f_ofT)) (h_ofT : Γ f_ofT = c_ofT)  : Says P n c_any1 := by
  intro args ext r ext' fs h
  unfold c_any1 at h
  split at h
  case h_2 => cases h
  rename_i v a s
  split at h
  case h_2 => cases h
  rename_i l hv
  split at h
  case isFalse => cases h
  rename_i hc
  obtain ⟨h0, h1⟩ := hc
  simp only [Option.some.injEq, Prod.mk.injEq] at h
  obtain ⟨rfl, rfl, rfl⟩ := h
  refine is.goX hm hΓ k_any1 (1000000 :: o_any1) (by simp [a_any1]) (by simp) ?_
  simp only [a_any1, h_ofT, c_ofT, hv, h0, h1, isStr, isS1, ofSt, ofS1, List.zipIdx_cons, List.zipIdx_nil, ↓SP, SQ, Gam.add, stepM, callC, argC, lendO, nmBy, nmC, likeL, likeB, plainOb, offs, exL, X, F, trP, trO, stepD, stepW, newA, SV.tr, SV.trL, fz, allP, Ob.tr, loadA, cellsA, SV.cells, binA, binI, eqOut, isSl, isPt, natOf, callee, snap, SV.refsL, SV.refs, thaw, fzAll, loA, hiA, elemOf, partsA, buildA, putCells, ↓reduceIte, reduceCtorEq, okCell, Nat.reduceAdd, Nat.reduceEqDiff, Nat.reduceSub, Nat.reduceMul, Nat.reduceLeDiff, Nat.reduceLT, Nat.reduceBEq, PV.scal, PV.scalL, SV.scal, SV.scalL, Ob.scal, PV.isCell, pure', resO]
  refine finA_gen [] trivial (by simp [retA, rvA, mkE_cons, mk_nil, mkO_cons, mkO_nil, loadA, SV.tr, SV.trL, nmF, rn_nil, rn_cons1, rn_cons2, plainOb, SV.refsL, SV.refs, Ob.refs, X, F, List.range_succ, mkO, setO_mk]; rfl) ?_ ?_ ?_ ?_ ?_ ?_ ?_ <;> simp [anL, retA, rvA, mkE_cons, mk_nil, mkO_cons, mkO_nil, loadA, SV.tr, SV.trL, nmF, rn_nil, rn_cons1, rn_cons2, plainOb, SV.refsL, SV.refs, Ob.refs, X, F, List.range_succ, mkO, setO_mk]
def zerosB (n : Nat) : ByteArray := pushB (List.replicate n 0)
theorem u8sOf_zeros (n : Nat) : u8sOf (List.replicate n (.int .u8 0)) = some (List.replicate n 0) := by
  induction n with
  | zero => rfl
  | succ n ih => simp [List.replicate_succ, u8sOf, ih]
theorem pushB_size (ns : List Int) : ∀ r : ByteArray, (ns.foldl (fun r n => r.push (UInt8.ofNat n.toNat)) r).size = r.size + ns.length := by
  induction ns with
  | nil => intro r; simp
  | cons a ns ih => intro r; simp only [List.foldl_cons, ih, List.length_cons, ByteArray.size_push]; omega
theorem zerosB_size (n : Nat) : (zerosB n).size = n := by
  unfold zerosB pushB
  rw [pushB_size]
  simp
def bAt (s : ByteArray) (i : Nat) : UInt8 := s[i]?.getD 0
theorem bget {s : ByteArray} {i : Nat} (h : i < s.size) : s[i]? = some (bAt s i) := by
  unfold bAt
  rw [getElem?_pos s i h]
  rfl
def hasB (s : ByteArray) (b : UInt8) : Bool := s.data.toList.contains b
theorem bAt_data {s : ByteArray} {i : Nat} (h : i < s.size) : bAt s i = s.data.toList[i]'(by simpa using h) := by
  unfold bAt
  rw [getElem?_pos s i h]
  rfl
theorem hasB_iff {s : ByteArray} {b : UInt8} : hasB s b = true ↔ ∃ k, k < s.size ∧ bAt s k = b := by
  unfold hasB
  rw [List.contains_iff_mem, List.mem_iff_getElem]
  constructor
  · rintro ⟨k, hk, he⟩
    have hk' : k < s.size := by simpa using hk
    exact ⟨k, hk', by rw [bAt_data hk', he]⟩
  · rintro ⟨k, hk, he⟩
    exact ⟨k, by simpa using hk, by rw [← bAt_data hk, he]⟩
theorem hasB_no {s : ByteArray} {b : UInt8} (h : ∀ k, k < s.size → bAt s k ≠ b) : hasB s b = false := by
  cases he : hasB s b with
  | false => rfl
  | true =>
    obtain ⟨k, hk, hb⟩ := hasB_iff.mp he
    exact absurd hb (h k hk)
theorem u8_back (b : UInt8) : (b.toNat : Int).toNat.toUInt8 = b := by
  rw [Int.toNat_natCast]
  exact UInt8.toNat.inj (by rw [show b.toNat.toUInt8 = UInt8.ofNat b.toNat from rfl]; simp)
theorem ib_has : ∀ (l : List UInt8) (b : UInt8), decide (Lib.indexByte l b ≥ 0) = l.contains b
  | [], b => rfl
  | a :: l, b => by
    have ih := ib_has l b
    have hge := Lib.indexByte_ge l b
    unfold Lib.indexByte
    by_cases h : a = b
    · subst h
      simp
    · have h' : (a == b) = false := by simp [h]
      have h'' : (b == a) = false := by simp; exact fun e => h e.symm
      simp only [h', List.contains_cons, h'', Bool.false_or]
      rw [← ih]
      by_cases h2 : Lib.indexByte l b = -1
      · simp [h2]
      · have : (Lib.indexByte l b == -1) = false := by simp [h2]
        simp only [this, Bool.false_eq_true, if_false]
        have h3 : Lib.indexByte l b ≥ 0 := by omega
        simp only [h3, decide_true, decide_eq_true_eq]
        omega
def a_stands : AFn := ⟨2, 
  .seq (.reg [⟨some 4, none, .d (.mv (.c (.bool false)))⟩])
  (.seq (.seq (.reg [⟨some 5, none, .d (.mv (.c (.int .i64 0)))⟩])
  (.block 0 (.loop (.seq (.seq (.reg [⟨some 6, none, .d (.mv (.t 5))⟩,
      ⟨some 7, none, .d (.mv (.t 0))⟩,
      ⟨some 8, none, .d (.lenS (.t 7))⟩,
      ⟨some 9, none, .d (.bin .arith .lss (.t 6) (.t 8))⟩])
    (.cond (.t 9) (.skip) (.exit 0)))
    (.seq (.block 1 (.seq (.reg [⟨some 12, none, .d (.mv (.t 0))⟩,
       ⟨some 13, none, .d (.mv (.t 5))⟩,
       ⟨some 14, none, .d (.idxS (.t 12) (.t 13))⟩,
       ⟨some 15, none, .d (.mv (.t 1))⟩,
       ⟨some 16, none, .d (.bin .arith .eql (.t 14) (.t 15))⟩])
     (.cond (.t 16) (.seq (.reg [⟨some 4, none, .d (.mv (.c (.bool true)))⟩])
      (.ret)) (.skip))))
    (.reg [⟨some 10, none, .d (.mv (.t 5))⟩,
      ⟨some 11, none, .d (.bin .arith .add (.t 10) (.c (.int .i64 1)))⟩,
      ⟨some 5, none, .d (.mv (.t 11))⟩]))))))
  (.seq (.reg [⟨some 4, none, .d (.mv (.c (.bool false)))⟩])
  (.ret))), [.tmp 4]⟩
def n_stands : Nat → Option Ann := fun _ => none
abbrev k_stands : List Nat := [0, 1, 4, 5, 9, 16]
abbrev o_stands : List Nat := []
def c_stands : Con := pure' fun
  | [.p (.str s), .p (.int .u8 c)] => if s.size ≤ 5000 ∧ 0 ≤ c ∧ c ≤ 255 then some (.p (.bool (hasB s c.toNat.toUInt8)), []) else none
  | _ => none
theorem s_stands {P : Program} (hm : P.follows .mixedOrders = true) {Γ : Gam} (hΓ : GS P Γ) {n : FuncId} (is : Is P n a_stands)  : Says P n c_stands := by
  refine Says.pure fun args r fs h => ?_
  split at h
  case h_2 => cases h
  rename_i s c
  split at h
  case isFalse => cases h
  rename_i hc
  obtain ⟨hs, h0, h1⟩ := hc
  simp only [Option.some.injEq, Prod.mk.injEq] at h
  obtain ⟨rfl, rfl⟩ := h
  obtain ⟨b, rfl⟩ : ∃ b : UInt8, c = (b.toNat : Int) := ⟨UInt8.ofNat c.toNat, by rw [UInt8.toNat_ofNat']; omega⟩
  rw [u8_back]
  refine is.go hm hΓ k_stands o_stands (by simp [a_stands]) ?_
  simp only [a_stands, List.zipIdx_cons, List.zipIdx_nil, ↓SP, SQ, Gam.add, stepM, callC, argC, lendO, nmBy, nmC, likeL, likeB, plainOb, offs, exL, X, F, trP, trO, stepD, stepW, newA, SV.tr, SV.trL, fz, allP, Ob.tr, loadA, cellsA, SV.cells, binA, binI, eqOut, isSl, isPt, natOf, callee, snap, SV.refsL, SV.refs, thaw, fzAll, loA, hiA, elemOf, partsA, buildA, putCells, ↓reduceIte, reduceCtorEq, okCell, Nat.reduceAdd, Nat.reduceEqDiff, Nat.reduceSub, Nat.reduceMul, Nat.reduceLeDiff, Nat.reduceLT, Nat.reduceBEq, PV.scal, PV.scalL, SV.scal, SV.scalL, Ob.scal, PV.isCell, pure', resO]
  refine loop_at (fun t : Nat × SV × SV => mkEnv [(0, .p (.str s)), (1, .p (.int .u8 b.toNat)), (4, .p (.bool false)), (5, si t.1), (9, t.2.1), (16, t.2.2)])
    (fun t => mkO [])
    (fun t => t.1 ≤ s.size ∧ ∀ k, k < t.1 → bAt s k ≠ b) (fun t => s.size - t.1) (0, .junk, .junk) (by simp) (by simp) (by simp) ?_
  rintro ⟨i, x9, x16⟩ ⟨hi, hk⟩ R hR hN
  simp only at hi hk
  by_cases hlt : i < s.size
  · have hgt : (i : Int) < s.size := by omega
    have hw : IntKind.i64.wrap ((i : Int) + 1) = ((i + 1 : Nat) : Int) := by rw [wrap64 (by omega) (by omega)]; omega
    have hb := bget hlt
    have hi0 : (0 : Int) ≤ i := by omega
    by_cases he : bAt s i = b
    · have hh : hasB s b = true := hasB_iff.mpr ⟨i, hlt, he⟩
      simp only [hgt, hb, hi0, he, hh, Int.toNat_natCast, ↓SP, SQ, Gam.add, stepM, callC, argC, lendO, nmBy, nmC, likeL, likeB, plainOb, offs, exL, X, F, trP, trO, stepD, stepW, newA, SV.tr, SV.trL, fz, allP, Ob.tr, loadA, cellsA, SV.cells, binA, binI, eqOut, isSl, isPt, natOf, callee, snap, SV.refsL, SV.refs, thaw, fzAll, loA, hiA, elemOf, partsA, buildA, putCells, ↓reduceIte, reduceCtorEq, okCell, Nat.reduceAdd, Nat.reduceEqDiff, Nat.reduceSub, Nat.reduceMul, Nat.reduceLeDiff, Nat.reduceLT, Nat.reduceBEq, PV.scal, PV.scalL, SV.scal, SV.scalL, Ob.scal, PV.isCell, pure', resO]
      refine hR _ _ _ (by intro h; cases h) ?_
      exact finA_val (by simp [hh, retA, rvA, mkE_cons, mk_nil, mkO_cons, mkO_nil, loadA, SV.tr, SV.trL, nmF, rn_nil, rn_cons1, rn_cons2, plainOb, SV.refsL, SV.refs, Ob.refs, X, F, List.range_succ, mkO, setO_mk]) (by simp [SV.tr, SV.trL])
    · have he' : ((bAt s i).toNat : Int) ≠ b.toNat := fun h => he (UInt8.toNat.inj (by omega))
      have he2 : (((bAt s i).toNat : Int) == b.toNat) = false := by simp; omega
      simp only [hgt, hw, hb, hi0, he2, he', Int.toNat_natCast, ↓SP, SQ, Gam.add, stepM, callC, argC, lendO, nmBy, nmC, likeL, likeB, plainOb, offs, exL, X, F, trP, trO, stepD, stepW, newA, SV.tr, SV.trL, fz, allP, Ob.tr, loadA, cellsA, SV.cells, binA, binI, eqOut, isSl, isPt, natOf, callee, snap, SV.refsL, SV.refs, thaw, fzAll, loA, hiA, elemOf, partsA, buildA, putCells, ↓reduceIte, reduceCtorEq, okCell, Nat.reduceAdd, Nat.reduceEqDiff, Nat.reduceSub, Nat.reduceMul, Nat.reduceLeDiff, Nat.reduceLT, Nat.reduceBEq, PV.scal, PV.scalL, SV.scal, SV.scalL, Ob.scal, PV.isCell, pure', resO]
      refine hN (i + 1, _, _) _ _ ⟨by simp only; omega, fun k hlt2 => ?_⟩ (by simp only; omega) rfl rfl
      by_cases hki : k = i
      · rw [hki]; exact he
      · exact hk k (by simp only at hlt2; omega)
  · have he : i = s.size := by omega
    subst he
    have hgt : ¬ ((s.size : Nat) : Int) < s.size := by omega
    have hh : hasB s b = false := hasB_no hk
    simp only [hgt, hh, ↓SP, SQ, Gam.add, stepM, callC, argC, lendO, nmBy, nmC, likeL, likeB, plainOb, offs, exL, X, F, trP, trO, stepD, stepW, newA, SV.tr, SV.trL, fz, allP, Ob.tr, loadA, cellsA, SV.cells, binA, binI, eqOut, isSl, isPt, natOf, callee, snap, SV.refsL, SV.refs, thaw, fzAll, loA, hiA, elemOf, partsA, buildA, putCells, ↓reduceIte, reduceCtorEq, okCell, Nat.reduceAdd, Nat.reduceEqDiff, Nat.reduceSub, Nat.reduceMul, Nat.reduceLeDiff, Nat.reduceLT, Nat.reduceBEq, PV.scal, PV.scalL, SV.scal, SV.scalL, Ob.scal, PV.isCell, pure', resO]
    refine hR _ _ _ (by intro h; cases h) ?_
    simp only [↓SP, SQ, Gam.add, stepM, callC, argC, lendO, nmBy, nmC, likeL, likeB, plainOb, offs, exL, X, F, trP, trO, stepD, stepW, newA, SV.tr, SV.trL, fz, allP, Ob.tr, loadA, cellsA, SV.cells, binA, binI, eqOut, isSl, isPt, natOf, callee, snap, SV.refsL, SV.refs, thaw, fzAll, loA, hiA, elemOf, partsA, buildA, putCells, ↓reduceIte, reduceCtorEq, okCell, Nat.reduceAdd, Nat.reduceEqDiff, Nat.reduceSub, Nat.reduceMul, Nat.reduceLeDiff, Nat.reduceLT, Nat.reduceBEq, PV.scal, PV.scalL, SV.scal, SV.scalL, Ob.scal, PV.isCell, pure', resO]
    exact finA_val (by simp [hh, retA, rvA, mkE_cons, mk_nil, mkO_cons, mkO_nil, loadA, SV.tr, SV.trL, nmF, rn_nil, rn_cons1, rn_cons2, plainOb, SV.refsL, SV.refs, Ob.refs, X, F, List.range_succ, mkO, setO_mk]) (by simp [SV.tr, SV.trL])
theorem binS_add {a b : ByteArray} (h : a.size + b.size ≤ 100000) : binS .add a b = some (.str (a ++ b)) := by
  show (if ((a.size + b.size : Nat) : Int) ≤ 9223372036854775807 then some (PV.str (a ++ b)) else none) = _
  rw [if_pos (by omega)]
def numS (n : Int) : ByteArray := ⟨(Lib.itoa n).toArray⟩
def digS (u : Nat) : ByteArray := ⟨(Lib.decDigits u).toArray⟩
theorem dd_small {u : Nat} (h : u < 10) : Lib.decDigits u = [UInt8.ofNat (48 + u)] := by rw [Lib.decDigits, dif_pos h]
theorem dd_big {u : Nat} (h : ¬ u < 10) : Lib.decDigits u = Lib.decDigits (u / 10) ++ [UInt8.ofNat (48 + u % 10)] := by rw [Lib.decDigits, dif_neg h]
theorem dd_len : ∀ (k u : Nat), u < 10 ^ (k + 1) → (Lib.decDigits u).length ≤ k + 1
  | 0, u, h => by rw [dd_small (by omega)]; simp
  | k + 1, u, h => by
    by_cases hu : u < 10
    · rw [dd_small hu]; simp
    · rw [dd_big hu]
      have := dd_len k (u / 10) (by rw [Nat.pow_succ] at h; omega)
      simp only [List.length_append, List.length_singleton]
      omega
theorem digS_size {u : Nat} (h : u ≤ 1000000) : (digS u).size ≤ 7 := by
  have := dd_len 6 u (by omega)
  simpa [digS, ByteArray.size] using this
theorem numS_pos {n : Int} (h : 0 ≤ n) : numS n = digS n.toNat := by
  unfold numS digS Lib.itoa
  rw [if_neg (by omega)]
theorem numS_neg {n : Int} (h : n < 0) : numS n = ⟨#[45]⟩ ++ digS n.natAbs := by
  unfold numS digS Lib.itoa
  rw [if_pos h]
  apply ByteArray.ext
  rw [ByteArray.data_append]
  simp
theorem numS_size {n : Int} (h0 : -1000000 ≤ n) (h1 : n ≤ 1000000) : (numS n).size ≤ 8 := by
  by_cases h : 0 ≤ n
  · rw [numS_pos h]; have := digS_size (u := n.toNat) (by omega); omega
  · rw [numS_neg (by omega), ByteArray.size_append]; have := digS_size (u := n.natAbs) (by omega); have e : (⟨#[45]⟩ : ByteArray).size = 1 := rfl; omega
def tenS : ByteArray := ⟨#[48, 49, 50, 51, 52, 53, 54, 55, 56, 57]⟩
theorem ten_dig : ∀ u : Nat, u < 10 → tenS.extract u (u + 1) = ⟨#[UInt8.ofNat (48 + u)]⟩ := by decide
theorem digS_one {u : Nat} (h : u < 10) : digS u = tenS.extract u (u + 1) := by
  rw [ten_dig u h]; unfold digS; rw [dd_small h]
theorem digS_more {u : Nat} (h : ¬ u < 10) : digS u = digS (u / 10) ++ tenS.extract (u % 10) (u % 10 + 1) := by
  rw [ten_dig _ (Nat.mod_lt _ (by decide))]
  unfold digS
  rw [dd_big h]
  apply ByteArray.ext
  rw [ByteArray.data_append]
  simp
def a_num (f_num : FuncId) : AFn := ⟨1, 
  .seq (.reg [⟨some 2, none, .d (.mv (.c (.str ⟨#[]⟩)))⟩])
  (.seq (.seq (.reg [⟨some 3, none, .d (.mv (.t 0))⟩,
    ⟨some 4, none, .d (.bin .arith .lss (.t 3) (.c (.int .i64 0)))⟩])
  (.cond (.t 4) (.seq (.seq (.reg [⟨some 5, none, .d (.mv (.t 0))⟩,
     ⟨some 6, none, .d (.bin .arith .gtr (.t 5) (.c (.int .i64 (-10))))⟩])
   (.cond (.t 6) (.seq (.reg [⟨some 7, none, .d (.mv (.t 0))⟩,
      ⟨some 8, none, .d (.neg (.t 7))⟩,
      ⟨some 9, none, .d (.call (.f f_num) [(.t 8)])⟩,
      ⟨some 10, none, .d (.bin .str .add (.c (.str ⟨#[45]⟩)) (.t 9))⟩,
      ⟨some 2, none, .d (.mv (.t 10))⟩])
    (.ret)) (.skip)))
   (.seq (.reg [⟨some 11, none, .d (.mv (.t 0))⟩,
     ⟨some 12, none, .d (.bin .arith .quo (.t 11) (.c (.int .i64 10)))⟩,
     ⟨some 13, none, .d (.call (.f f_num) [(.t 12)])⟩,
     ⟨some 14, none, .d (.mv (.t 0))⟩,
     ⟨some 15, none, .d (.bin .arith .rem (.t 14) (.c (.int .i64 10)))⟩,
     ⟨some 16, none, .d (.neg (.t 15))⟩,
     ⟨some 17, none, .d (.call (.f f_num) [(.t 16)])⟩,
     ⟨some 18, none, .d (.bin .str .add (.t 13) (.t 17))⟩,
     ⟨some 2, none, .d (.mv (.t 18))⟩])
   (.ret))) (.skip)))
  (.seq (.seq (.reg [⟨some 19, none, .d (.mv (.t 0))⟩,
    ⟨some 20, none, .d (.bin .arith .lss (.t 19) (.c (.int .i64 10)))⟩])
  (.cond (.t 20) (.seq (.reg [⟨some 21, none, .d (.mv (.t 0))⟩,
     ⟨some 22, none, .d (.mv (.t 0))⟩,
     ⟨some 23, none, .d (.bin .arith .add (.t 22) (.c (.int .i64 1)))⟩,
     ⟨some 24, none, .d (.slcS (.c (.str ⟨#[48, 49, 50, 51, 52, 53, 54, 55, 56, 57]⟩)) (some (.t 21)) (some (.t 23)))⟩,
     ⟨some 2, none, .d (.mv (.t 24))⟩])
   (.ret)) (.skip)))
  (.seq (.dreg [] [([], ⟨some 25, none, .d (.mv (.t 0))⟩),
    ([], ⟨some 26, none, .d (.bin .arith .quo (.t 25) (.c (.int .i64 10)))⟩),
    ([], ⟨some 27, none, .d (.call (.f f_num) [(.t 26)])⟩),
    ([], ⟨some 28, none, .d (.mv (.t 0))⟩),
    ([], ⟨some 29, none, .d (.bin .arith .rem (.t 28) (.c (.int .i64 10)))⟩),
    ([], ⟨some 30, none, .d (.mv (.t 0))⟩),
    ([], ⟨some 31, none, .d (.bin .arith .rem (.t 30) (.c (.int .i64 10)))⟩),
    ([], ⟨some 32, none, .d (.bin .arith .add (.t 31) (.c (.int .i64 1)))⟩),
    ([], ⟨some 33, none, .d (.slcS (.c (.str ⟨#[48, 49, 50, 51, 52, 53, 54, 55, 56, 57]⟩)) (some (.t 29)) (some (.t 32)))⟩)] [⟨some 34, none, .d (.bin .str .add (.t 27) (.t 33))⟩,
    ⟨some 2, none, .d (.mv (.t 34))⟩])
  (.ret)))), [.tmp 2]⟩
def n_num : Nat → Option Ann := fun _ => none
abbrev k_num : List Nat := [0, 2, 4, 6, 20]
abbrev o_num : List Nat := []
def c_num : Con := pure' fun
  | [.p (.int .i64 n)] => if -1000000 ≤ n ∧ n ≤ 1000000 then some (.p (.str (numS n)), []) else none
  | _ => none
def muNm : List SV → List Ob → Nat
  | [.p (.int .i64 n)], _ => if n < 0 then n.natAbs + 11 else n.natAbs
  | _, _ => 0
set_option maxHeartbeats 1000000 in
theorem s_num {P : Program} (hm : P.follows .mixedOrders = true) {Γ : Gam} (hΓ : GS P Γ) {n : FuncId} (is : Is P n (a_num n)) (_ : True) : Says P n c_num := by
  refine Says.rec hΓ muNm fun k hk args ext r ext' fs h hmu => ?_
  have hself : Γ.addX n (lim muNm k c_num) n = lim muNm k c_num := by simp [Gam.addX]
  generalize Γ.addX n (lim muNm k c_num) = Δ at *
  unfold c_num pure' at h
  split at h
  case h_2 => cases h
  simp only [Option.map_eq_some_iff] at h
  obtain ⟨⟨r0, f0⟩, h, e⟩ := h
  simp only [Prod.mk.injEq] at e
  obtain ⟨rfl, rfl, rfl⟩ := e
  split at h
  case h_2 => cases h
  rename_i x
  split at h
  case isFalse => cases h
  rename_i hc
  simp only [Option.some.injEq, Prod.mk.injEq] at h
  obtain ⟨rfl, rfl⟩ := h
  obtain ⟨b1, b2⟩ := hc
  simp only [muNm] at hmu
  refine is.go hm hk k_num o_num (by simp [a_num]) ?_
  by_cases hneg : x < 0
  · rw [if_pos hneg] at hmu
    by_cases h10 : x > -10
    · have hw : IntKind.i64.wrap (-x) = -x := wrap64 (by omega) (by omega)
      have q1 : -1000000 ≤ -x := by omega
      have q2 : -x ≤ 1000000 := by omega
      have q3 : ¬ -x < 0 := by omega
      have q4 : (-x).natAbs < k := by omega
      have hb : binS .add ⟨#[45]⟩ (numS (-x)) = some (.str (numS x)) := by
        rw [binS_add (by have := numS_size q1 q2; have e : (⟨#[45]⟩ : ByteArray).size = 1 := rfl; omega), numS_neg hneg, numS_pos (by omega)]
        rw [show (-x).toNat = x.natAbs by omega]
      simp only [a_num, hself, lim, muNm, c_num, hneg, h10, hw, q1, q2, q3, q4, hb, if_true, if_false, List.zipIdx_cons, List.zipIdx_nil, ↓SP, SQ, Gam.add, stepM, callC, argC, lendO, nmBy, nmC, likeL, likeB, plainOb, offs, exL, X, F, trP, trO, stepD, stepW, newA, SV.tr, SV.trL, fz, allP, Ob.tr, loadA, cellsA, SV.cells, binA, binI, eqOut, isSl, isPt, natOf, callee, snap, SV.refsL, SV.refs, thaw, fzAll, loA, hiA, elemOf, partsA, buildA, putCells, ↓reduceIte, reduceCtorEq, okCell, Nat.reduceAdd, Nat.reduceEqDiff, Nat.reduceSub, Nat.reduceMul, Nat.reduceLeDiff, Nat.reduceLT, Nat.reduceBEq, PV.scal, PV.scalL, SV.scal, SV.scalL, Ob.scal, PV.isCell, pure', resO]
      exact finA_val (by simp [retA, rvA, mkE_cons, mk_nil, mkO_cons, mkO_nil, loadA, SV.tr, SV.trL, nmF, rn_nil, rn_cons1, rn_cons2, plainOb, SV.refsL, SV.refs, Ob.refs, X, F, List.range_succ, mkO, setO_mk]) (by simp [SV.tr, SV.trL])
    · obtain ⟨u, rfl⟩ : ∃ u : Nat, x = -(u : Int) := ⟨x.natAbs, by omega⟩
      have d1 : (-(u : Int)).tdiv 10 = -((u / 10 : Nat) : Int) := by rw [Int.neg_tdiv, Int.tdiv_eq_ediv_of_nonneg (by omega)]; omega
      have d2 : (-(u : Int)).tmod 10 = -((u % 10 : Nat) : Int) := by rw [Int.neg_tmod, Int.tmod_eq_emod_of_nonneg (by omega)]; omega
      have w1 : IntKind.i64.wrap (-((u / 10 : Nat) : Int)) = -((u / 10 : Nat) : Int) := wrap64 (by omega) (by omega)
      have w2 : IntKind.i64.wrap (-((u % 10 : Nat) : Int)) = -((u % 10 : Nat) : Int) := wrap64 (by omega) (by omega)
      have w3 : IntKind.i64.wrap (- -((u % 10 : Nat) : Int)) = ((u % 10 : Nat) : Int) := by rw [Int.neg_neg]; exact wrap64 (by omega) (by omega)
      have q1 : -1000000 ≤ -((u / 10 : Nat) : Int) := by omega
      have q2 : -((u / 10 : Nat) : Int) ≤ 1000000 := by omega
      have q3 : -((u / 10 : Nat) : Int) < 0 := by omega
      have q4 : (-((u / 10 : Nat) : Int)).natAbs + 11 < k := by omega
      have q5 : (-1000000 : Int) ≤ ((u % 10 : Nat) : Int) := by omega
      have q6 : ((u % 10 : Nat) : Int) ≤ 1000000 := by omega
      have q7 : ¬ ((u % 10 : Nat) : Int) < 0 := by omega
      have q8 : ((u % 10 : Nat) : Int).natAbs < k := by omega
      have hb : binS .add (numS (-((u / 10 : Nat) : Int))) (numS ((u % 10 : Nat) : Int)) = some (.str (numS (-(u : Int)))) := by
        rw [binS_add (by have h1 := numS_size q1 q2; have h2 := numS_size q5 q6; omega), numS_neg hneg, numS_neg q3, numS_pos (by omega)]
        rw [show (-((u / 10 : Nat) : Int)).natAbs = u / 10 by omega, show (-(u : Int)).natAbs = u by omega, Int.toNat_natCast, digS_more (u := u) (by omega), digS_one (Nat.mod_lt u (by decide)), ByteArray.append_assoc]
      simp only [a_num, hself, lim, muNm, c_num, hneg, h10, (by decide : ¬ (10 : Int) = 0), d1, d2, w1, w2, w3, q1, q2, q3, q4, q5, q6, q7, q8, hb, if_true, if_false, List.zipIdx_cons, List.zipIdx_nil, ↓SP, SQ, Gam.add, stepM, callC, argC, lendO, nmBy, nmC, likeL, likeB, plainOb, offs, exL, X, F, trP, trO, stepD, stepW, newA, SV.tr, SV.trL, fz, allP, Ob.tr, loadA, cellsA, SV.cells, binA, binI, eqOut, isSl, isPt, natOf, callee, snap, SV.refsL, SV.refs, thaw, fzAll, loA, hiA, elemOf, partsA, buildA, putCells, ↓reduceIte, reduceCtorEq, okCell, Nat.reduceAdd, Nat.reduceEqDiff, Nat.reduceSub, Nat.reduceMul, Nat.reduceLeDiff, Nat.reduceLT, Nat.reduceBEq, PV.scal, PV.scalL, SV.scal, SV.scalL, Ob.scal, PV.isCell, pure', resO]
      exact finA_val (by simp [retA, rvA, mkE_cons, mk_nil, mkO_cons, mkO_nil, loadA, SV.tr, SV.trL, nmF, rn_nil, rn_cons1, rn_cons2, plainOb, SV.refsL, SV.refs, Ob.refs, X, F, List.range_succ, mkO, setO_mk]) (by simp [SV.tr, SV.trL])
  · rw [if_neg hneg] at hmu
    obtain ⟨u, rfl⟩ : ∃ u : Nat, x = (u : Int) := ⟨x.toNat, by omega⟩
    have z0 : (0 : Int) ≤ u := by omega
    by_cases h10 : (u : Int) < 10
    · have hw : IntKind.i64.wrap ((u : Int) + 1) = ((u + 1 : Nat) : Int) := by rw [wrap64 (by omega) (by omega)]; omega
      have z1 : (0 : Int) ≤ ((u + 1 : Nat) : Int) := by omega
      have e : tenS.size = 10 := rfl
      have hle : u ≤ u + 1 ∧ u + 1 ≤ (⟨#[48, 49, 50, 51, 52, 53, 54, 55, 56, 57]⟩ : ByteArray).size := ⟨by omega, by show u + 1 ≤ tenS.size; omega⟩
      have hx : (⟨#[48, 49, 50, 51, 52, 53, 54, 55, 56, 57]⟩ : ByteArray).extract u (u + 1) = numS (u : Int) := by
        rw [numS_pos z0, Int.toNat_natCast, digS_one (by omega)]; rfl
      simp only [a_num, hneg, h10, hw, z0, z1, hle, hx, Int.toNat_natCast, if_true, if_false, and_self, List.zipIdx_cons, List.zipIdx_nil, ↓SP, SQ, Gam.add, stepM, callC, argC, lendO, nmBy, nmC, likeL, likeB, plainOb, offs, exL, X, F, trP, trO, stepD, stepW, newA, SV.tr, SV.trL, fz, allP, Ob.tr, loadA, cellsA, SV.cells, binA, binI, eqOut, isSl, isPt, natOf, callee, snap, SV.refsL, SV.refs, thaw, fzAll, loA, hiA, elemOf, partsA, buildA, putCells, ↓reduceIte, reduceCtorEq, okCell, Nat.reduceAdd, Nat.reduceEqDiff, Nat.reduceSub, Nat.reduceMul, Nat.reduceLeDiff, Nat.reduceLT, Nat.reduceBEq, PV.scal, PV.scalL, SV.scal, SV.scalL, Ob.scal, PV.isCell, pure', resO]
      exact finA_val (by simp [retA, rvA, mkE_cons, mk_nil, mkO_cons, mkO_nil, loadA, SV.tr, SV.trL, nmF, rn_nil, rn_cons1, rn_cons2, plainOb, SV.refsL, SV.refs, Ob.refs, X, F, List.range_succ, mkO, setO_mk]) (by simp [SV.tr, SV.trL])
    · have d1 : (u : Int).tdiv 10 = ((u / 10 : Nat) : Int) := by rw [Int.tdiv_eq_ediv_of_nonneg (by omega)]; omega
      have d2 : (u : Int).tmod 10 = ((u % 10 : Nat) : Int) := by rw [Int.tmod_eq_emod_of_nonneg (by omega)]; omega
      have w1 : IntKind.i64.wrap ((u / 10 : Nat) : Int) = ((u / 10 : Nat) : Int) := wrap64 (by omega) (by omega)
      have w2 : IntKind.i64.wrap ((u % 10 : Nat) : Int) = ((u % 10 : Nat) : Int) := wrap64 (by omega) (by omega)
      have w3 : IntKind.i64.wrap (((u % 10 : Nat) : Int) + 1) = ((u % 10 + 1 : Nat) : Int) := by rw [wrap64 (by omega) (by omega)]; omega
      have q1 : (-1000000 : Int) ≤ ((u / 10 : Nat) : Int) := by omega
      have q2 : ((u / 10 : Nat) : Int) ≤ 1000000 := by omega
      have q3 : ¬ ((u / 10 : Nat) : Int) < 0 := by omega
      have q4 : ((u / 10 : Nat) : Int).natAbs < k := by omega
      have z1 : (0 : Int) ≤ ((u % 10 : Nat) : Int) := by omega
      have z2 : (0 : Int) ≤ ((u % 10 + 1 : Nat) : Int) := by omega
      have e : tenS.size = 10 := rfl
      have hm10 := Nat.mod_lt u (show 10 > 0 by decide)
      have hle : u % 10 ≤ u % 10 + 1 ∧ u % 10 + 1 ≤ (⟨#[48, 49, 50, 51, 52, 53, 54, 55, 56, 57]⟩ : ByteArray).size := ⟨by omega, by show u % 10 + 1 ≤ tenS.size; omega⟩
      have hb : binS .add (numS ((u / 10 : Nat) : Int)) ((⟨#[48, 49, 50, 51, 52, 53, 54, 55, 56, 57]⟩ : ByteArray).extract (u % 10) (u % 10 + 1)) = some (.str (numS (u : Int))) := by
        show binS .add (numS ((u / 10 : Nat) : Int)) (tenS.extract (u % 10) (u % 10 + 1)) = _
        have es : (tenS.extract (u % 10) (u % 10 + 1)).size = 1 := by rw [ten_dig _ hm10]; rfl
        rw [binS_add (by have h1 := numS_size q1 q2; omega), numS_pos z0, numS_pos (by omega), Int.toNat_natCast, Int.toNat_natCast, digS_more (u := u) (by omega)]
      simp only [a_num, hself, lim, muNm, c_num, hneg, h10, (by decide : ¬ (10 : Int) = 0), d1, d2, w1, w2, w3, q1, q2, q3, q4, z0, z1, z2, hle, hb, Int.toNat_natCast, if_true, if_false, and_self, List.zipIdx_cons, List.zipIdx_nil, ↓SP, SQ, Gam.add, stepM, callC, argC, lendO, nmBy, nmC, likeL, likeB, plainOb, offs, exL, X, F, trP, trO, stepD, stepW, newA, SV.tr, SV.trL, fz, allP, Ob.tr, loadA, cellsA, SV.cells, binA, binI, eqOut, isSl, isPt, natOf, callee, snap, SV.refsL, SV.refs, thaw, fzAll, loA, hiA, elemOf, partsA, buildA, putCells, ↓reduceIte, reduceCtorEq, okCell, Nat.reduceAdd, Nat.reduceEqDiff, Nat.reduceSub, Nat.reduceMul, Nat.reduceLeDiff, Nat.reduceLT, Nat.reduceBEq, PV.scal, PV.scalL, SV.scal, SV.scalL, Ob.scal, PV.isCell, pure', resO]
      exact finA_val (by simp [retA, rvA, mkE_cons, mk_nil, mkO_cons, mkO_nil, loadA, SV.tr, SV.trL, nmF, rn_nil, rn_cons1, rn_cons2, plainOb, SV.refsL, SV.refs, Ob.refs, X, F, List.range_succ, mkO, setO_mk]) (by simp [SV.tr, SV.trL])
end Go.Proofs.YtpobnchalcokoaaDoor.Pam
