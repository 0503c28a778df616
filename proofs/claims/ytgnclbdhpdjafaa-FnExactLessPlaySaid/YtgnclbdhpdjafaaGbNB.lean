/- A part of the proof that stands in this folder: a small machine whose steps are shown to be the steps of the model, or walks of functions by it. No condition of its own. -/
import Derived.Test.YtgnclbdhpdjafaaGbML
set_option linter.unusedVariables false
set_option linter.unusedSimpArgs false
namespace Go.Proofs.Ytgnclbdhpdjafaa.Pam
open Go
/-- The number of a list by a base, of the first i of it. -/
def kyI (b : Int) (x : List Int) : Nat → Int
  | 0 => 0
  | i + 1 => kyI b x i * b + x.getD i 0 + 1
def kyL (b : Int) (x : List Int) : Int := kyI b x x.length
/-- The list of a number. -/
def dgB (b : Nat) : Nat → Nat → List Int
  | 0, _ => []
  | n + 1, key => dgB b n (key / b) ++ [((key % b : Nat) : Int) - 1]
theorem dgB_len (b : Nat) : ∀ n key, (dgB b n key).length = n
  | 0, _ => rfl
  | n + 1, key => by simp [dgB, dgB_len b n]
def inB (b : Nat) (x : List Int) : Bool := x.all fun v => decide (-1 ≤ v) && decide (v + 1 < b)
theorem inB_get {b : Nat} {x : List Int} (h : inB b x = true) {i : Nat} (hi : i < x.length) : -1 ≤ x.getD i 0 ∧ x.getD i 0 + 1 < b := by
  have := List.all_eq_true.1 h (x.getD i 0) (by rw [getD_lt hi]; exact List.getElem_mem hi)
  simpa using this
theorem ky_dg {b : Nat} (hb : 0 < b) {x : List Int} (h : inB b x = true) : ∀ i, i ≤ x.length → 0 ≤ kyI b x i ∧ kyI b x i < (b ^ i : Nat) ∧ dgB b i (kyI b x i).toNat = x.take i
  | 0, _ => by simp [kyI, dgB]
  | i + 1, hi => by
    obtain ⟨h0, h1, h2⟩ := ky_dg hb h i (by omega)
    obtain ⟨g0, g1⟩ := inB_get h (i := i) (by omega)
    obtain ⟨k, hk⟩ : ∃ k : Nat, kyI b x i = k := ⟨(kyI b x i).toNat, by omega⟩
    obtain ⟨v, hv⟩ : ∃ v : Nat, x.getD i 0 + 1 = v := ⟨(x.getD i 0 + 1).toNat, by omega⟩
    have e : kyI b x (i + 1) = ((k * b + v : Nat) : Int) := by
      simp only [kyI, hk]
      have := Int.natCast_mul k b
      omega
    have hkb : k < b ^ i := by omega
    have hvb : v < b := by omega
    rw [e]
    refine ⟨by omega, ?_, ?_⟩
    · have : (k + 1) * b ≤ b ^ i * b := Nat.mul_le_mul_right _ hkb
      have e2 : b ^ (i + 1) = b ^ i * b := Nat.pow_succ ..
      have e3 : (k + 1) * b = k * b + b := Nat.succ_mul ..
      omega
    · rw [hk] at h2
      simp only [Int.toNat_natCast] at h2 ⊢
      simp only [dgB]
      have q1 : (k * b + v) / b = k := by
        rw [Nat.add_comm, Nat.add_mul_div_right _ _ hb, Nat.div_eq_of_lt hvb]; omega
      have q2 : (k * b + v) % b = v := by
        rw [Nat.add_comm, Nat.add_mul_mod_self_right, Nat.mod_eq_of_lt hvb]
      have e3 : (((k * b + v) % b : Nat) : Int) - 1 = x.getD i 0 := by rw [q2]; omega
      rw [q1, h2, e3, take_one x i 0 (by omega)]
theorem kyL_bd {b : Nat} (hb : 0 < b) {x : List Int} (h : inB b x = true) : 0 ≤ kyL b x ∧ kyL b x < (b ^ x.length : Nat) := by
  obtain ⟨h0, h1, _⟩ := ky_dg hb h x.length (Nat.le_refl _)
  exact ⟨h0, h1⟩
theorem dg_ky {b : Nat} (hb : 0 < b) {x : List Int} (h : inB b x = true) : dgB b x.length (kyL b x).toNat = x := by
  obtain ⟨_, _, h2⟩ := ky_dg hb h x.length (Nat.le_refl _)
  rw [kyL, h2, List.take_length]
theorem ky_inj {b : Nat} (hb : 0 < b) {x y : List Int} (hx : inB b x = true) (hy : inB b y = true) (hl : x.length = y.length) (h : kyL b x = kyL b y) : x = y := by
  rw [← dg_ky hb hx, ← dg_ky hb hy, hl, h]
/-- Short states. -/
theorem sh_out {x : List Int} {m : Int} (h : isSh x m = true) : 1 ≤ x.length ∧ x.length ≤ 5 ∧ (m = 0 ∨ m = 1) ∧ ∀ v ∈ x, -1 ≤ v ∧ v ≤ m := by
  simp only [isSh, isSt, Bool.and_eq_true, decide_eq_true_eq, List.all_eq_true] at h
  obtain ⟨⟨⟨⟨⟨h1, h2⟩, h3, h4⟩, h5⟩, h6⟩, h7⟩ := h
  exact ⟨by omega, by omega, by omega, h5⟩
theorem sh_mk {x : List Int} {m : Int} (h1 : 1 ≤ x.length) (h2 : x.length ≤ 5) (h3 : m = 0 ∨ m = 1) (h4 : ∀ v ∈ x, -1 ≤ v ∧ v ≤ m) : isSh x m = true := by
  simp only [isSh, isSt, Bool.and_eq_true, decide_eq_true_eq, List.all_eq_true]
  exact ⟨⟨⟨⟨⟨by omega, by omega⟩, by omega, by omega⟩, h4⟩, by omega⟩, by omega⟩
theorem sh_in {x : List Int} {m : Int} (h : isSh x m = true) : inB (m + 2).toNat x = true ∧ inB 3 x = true := by
  obtain ⟨_, _, hm, h4⟩ := sh_out h
  simp only [inB, List.all_eq_true, Bool.and_eq_true, decide_eq_true_eq]
  exact ⟨fun v hv => by have := h4 v hv; omega, fun v hv => by have := h4 v hv; omega⟩
/-- The state behind a comparison. -/
def aftL (m : Int) (k : Nat) (y : Bool) (x : List Int) : List Int := afterL (fun i => decide (i < k) != y) m x
theorem aftL_len (m : Int) (k : Nat) (y : Bool) (x : List Int) : (aftL m k y x).length = x.length := afterL_len ..
/-- How many answers may yet be false, of all numbers together. -/
def msL (m : Int) (x : List Int) : Nat := (x.map fun v => if 0 ≤ v then (m + 1 - v).toNat else 0).sum
/-- The less-needs of all short states. -/
def tblL (m : Int) (n : Nat) : List Int := if m = 0 then (match n with
  | 1 => [0, 0]
  | 2 => [0, 0, 0, 1]
  | 3 => [0, 0, 0, 1, 0, 1, 1, 2]
  | 4 => [0, 0, 0, 1, 0, 1, 1, 2, 0, 1, 1, 2, 1, 2, 2, 2]
  | 5 => [0, 0, 0, 1, 0, 1, 1, 2, 0, 1, 1, 2, 1, 2, 2, 2, 0, 1, 1, 2, 1, 2, 2, 2, 1, 2, 2, 2, 2, 2, 2, 3]
  | _ => []) else (match n with
  | 1 => [0, 0, 0]
  | 2 => [0, 0, 0, 0, 3, 2, 0, 2, 1]
  | 3 => [0, 0, 0, 0, 3, 2, 0, 2, 1, 0, 3, 2, 3, 5, 4, 2, 4, 3, 0, 2, 1, 2, 4, 3, 1, 3, 2]
  | 4 => [0, 0, 0, 0, 3, 2, 0, 2, 1, 0, 3, 2, 3, 5, 4, 2, 4, 3, 0, 2, 1, 2, 4, 3, 1, 3, 2, 0, 3, 2, 3, 5, 4, 2, 4, 3, 3, 5, 4, 5, 5, 5, 4, 5, 4, 2, 4, 3, 4, 5, 4, 3, 4, 3, 0, 2, 1, 2, 4, 3, 1, 3, 2, 2, 4, 3, 4, 5, 4, 3, 4, 3, 1, 3, 2, 3, 4, 3, 2, 3, 2]
  | 5 => [0, 0, 0, 0, 3, 2, 0, 2, 1, 0, 3, 2, 3, 5, 4, 2, 4, 3, 0, 2, 1, 2, 4, 3, 1, 3, 2, 0, 3, 2, 3, 5, 4, 2, 4, 3, 3, 5, 4, 5, 5, 5, 4, 5, 4, 2, 4, 3, 4, 5, 4, 3, 4, 3, 0, 2, 1, 2, 4, 3, 1, 3, 2, 2, 4, 3, 4, 5, 4, 3, 4, 3, 1, 3, 2, 3, 4, 3, 2, 3, 2, 0, 3, 2, 3, 5, 4, 2, 4, 3, 3, 5, 4, 5, 5, 5, 4, 5, 4, 2, 4, 3, 4, 5, 4, 3, 4, 3, 3, 5, 4, 5, 5, 5, 4, 5, 4, 5, 5, 5, 5, 6, 5, 5, 5, 5, 4, 5, 4, 5, 5, 5, 4, 5, 4, 2, 4, 3, 4, 5, 4, 3, 4, 3, 4, 5, 4, 5, 5, 5, 4, 5, 4, 3, 4, 3, 4, 5, 4, 3, 4, 3, 0, 2, 1, 2, 4, 3, 1, 3, 2, 2, 4, 3, 4, 5, 4, 3, 4, 3, 1, 3, 2, 3, 4, 3, 2, 3, 2, 2, 4, 3, 4, 5, 4, 3, 4, 3, 4, 5, 4, 5, 5, 5, 4, 5, 4, 3, 4, 3, 4, 5, 4, 3, 4, 3, 1, 3, 2, 3, 4, 3, 2, 3, 2, 3, 4, 3, 4, 5, 4, 3, 4, 4, 2, 3, 2, 3, 4, 3, 2, 3, 3]
  | _ => [])
def lnT (m : Int) (x : List Int) : Int := (tblL m x.length).getD (kyL (m + 2) x).toNat 0
def mxT (a b : Int) : Int := if a > b then a else b
def vldT (m : Int) (x : List Int) (k : Nat) : Bool := !decide (aftL m k false x = x) && !decide (aftL m k true x = x)
def oneT (m : Int) (x : List Int) (k : Nat) : Int := 1 + mxT (lnT m (aftL m k false x)) (lnT m (aftL m k true x))
def chS (m : Int) (x : List Int) : Bool := decide (msL m x ≤ 10) && decide (lnT m x ≤ 100) && ((List.range (x.length - 1)).all fun j => [false, true].all fun y => isSh (aftL m (j + 1) y x) m && (decide (aftL m (j + 1) y x = x) || decide (msL m (aftL m (j + 1) y x) < msL m x))) &&
  if (opens x).length < 2 then decide (lnT m x = 0) else decide (1 ≤ lnT m x) && ((List.range (x.length - 1)).all fun j => !vldT m x (j + 1) || decide (lnT m x ≤ oneT m x (j + 1))) && (List.range (x.length - 1)).any fun j => vldT m x (j + 1) && decide (lnT m x = oneT m x (j + 1))
theorem chS_0 : ([1, 2, 3, 4, 5].all fun n => (List.range (2 ^ n)).all fun key => chS 0 (dgB 2 n key)) = true := by decide +kernel
theorem chS_1 : ([1, 2, 3, 4, 5].all fun n => (List.range (3 ^ n)).all fun key => chS 1 (dgB 3 n key)) = true := by decide +kernel
theorem chS_sh {x : List Int} {m : Int} (h : isSh x m = true) : chS m x = true := by
  obtain ⟨h1, h2, hm, _⟩ := sh_out h
  have hi := (sh_in h).1
  have hn : x.length ∈ [1, 2, 3, 4, 5] := by simp; omega
  rcases hm with rfl | rfl
  · have hi2 : inB 2 x = true := hi
    have hb : 0 ≤ kyL 2 x ∧ kyL 2 x < ((2 ^ x.length : Nat) : Int) := kyL_bd (b := 2) (by omega) hi2
    have hd : dgB 2 x.length (kyL 2 x).toNat = x := dg_ky (b := 2) (by omega) hi2
    have := List.all_eq_true.1 (List.all_eq_true.1 chS_0 x.length hn) (kyL 2 x).toNat (List.mem_range.2 (by omega))
    rw [hd] at this; exact this
  · have hi2 : inB 3 x = true := hi
    have hb : 0 ≤ kyL 3 x ∧ kyL 3 x < ((3 ^ x.length : Nat) : Int) := kyL_bd (b := 3) (by omega) hi2
    have hd : dgB 3 x.length (kyL 3 x).toNat = x := dg_ky (b := 3) (by omega) hi2
    have := List.all_eq_true.1 (List.all_eq_true.1 chS_1 x.length hn) (kyL 3 x).toNat (List.mem_range.2 (by omega))
    rw [hd] at this; exact this
theorem vld_no {m : Int} {x : List Int} {k : Nat} : ¬ vldT m x k = true ↔ (aftL m k false x = x ∨ aftL m k true x = x) := by
  by_cases h1 : aftL m k false x = x
  · simp [vldT, h1]
  · by_cases h2 : aftL m k true x = x
    · simp [vldT, h2]
    · simp [vldT, h1, h2]
structure CS (m : Int) (x : List Int) : Prop where
  sh : ∀ k, 1 ≤ k → k < x.length → ∀ y, isSh (aftL m k y x) m = true
  ms : ∀ k, 1 ≤ k → k < x.length → ∀ y, aftL m k y x ≠ x → msL m (aftL m k y x) < msL m x
  le : msL m x ≤ 10
  lt : 0 ≤ lnT m x ∧ lnT m x ≤ 100
  zero : (opens x).length < 2 → lnT m x = 0
  pos : ¬ (opens x).length < 2 → 1 ≤ lnT m x
  all : ¬ (opens x).length < 2 → ∀ k, 1 ≤ k → k < x.length → vldT m x k = true → lnT m x ≤ oneT m x k
  ex : ¬ (opens x).length < 2 → ∃ k, 1 ≤ k ∧ k < x.length ∧ vldT m x k = true ∧ lnT m x = oneT m x k
theorem CS.of {x : List Int} {m : Int} (h : isSh x m = true) : CS m x := by
  have hc := chS_sh h
  simp only [chS, Bool.and_eq_true, decide_eq_true_eq, List.all_eq_true, List.mem_range] at hc
  obtain ⟨⟨⟨c1, c2⟩, c3⟩, c4⟩ := hc
  have c3' : ∀ k, 1 ≤ k → k < x.length → ∀ y, isSh (aftL m k y x) m = true ∧ (aftL m k y x = x ∨ msL m (aftL m k y x) < msL m x) := fun k h1 h2 y => by
    have := c3 (k - 1) (by omega) y (by cases y <;> simp)
    rw [show k - 1 + 1 = k by omega] at this
    simpa using this
  refine ⟨fun k h1 h2 y => (c3' k h1 h2 y).1, fun k h1 h2 y hne => (c3' k h1 h2 y).2.resolve_left hne, c1, ⟨?_, c2⟩, fun ho => ?_, fun ho => ?_, fun ho => ?_, fun ho => ?_⟩
  · by_cases ho : (opens x).length < 2
    · simp [ho] at c4; omega
    · simp [ho] at c4; omega
  · simpa [ho] using c4
  · rw [if_neg ho] at c4
    simp only [Bool.and_eq_true, decide_eq_true_eq] at c4
    exact c4.1.1
  · rw [if_neg ho] at c4
    simp only [Bool.and_eq_true, List.all_eq_true, List.mem_range] at c4
    intro k h1 h2 hv
    have := c4.1.2 (k - 1) (by omega)
    rw [show k - 1 + 1 = k by omega, hv] at this
    simpa using this
  · rw [if_neg ho] at c4
    simp only [Bool.and_eq_true, List.any_eq_true, List.mem_range] at c4
    obtain ⟨j, hj, hv, he⟩ := c4.2
    exact ⟨j + 1, by omega, by omega, hv, by simpa using he⟩
/-- What a round of the reference finds. -/
theorem rnd_any {x : List Int} {m : Int} (h : isSh x m = true) (ho : ¬ (opens x).length < 2) (r : Int) (hr : 0 ≤ r) : ((List.range (x.length - 1)).any fun j => decide (lnT m (aftL m (j + 1) true x) ≤ r) && decide (lnT m (aftL m (j + 1) false x) ≤ r)) = decide (lnT m x ≤ r + 1) := by
  have C := CS.of h
  rw [Bool.eq_iff_iff, List.any_eq_true, decide_eq_true_eq]
  constructor
  · rintro ⟨j, hj, hb⟩
    rw [List.mem_range] at hj
    simp only [Bool.and_eq_true, decide_eq_true_eq] at hb
    by_cases hv : vldT m x (j + 1) = true
    · have := C.all ho (j + 1) (by omega) (by omega) hv
      simp only [oneT, mxT] at this
      split at this <;> omega
    · rcases vld_no.1 hv with e | e
      · rw [e] at hb; omega
      · rw [e] at hb; omega
  · intro hle
    obtain ⟨k, h1, h2, hv, he⟩ := C.ex ho
    refine ⟨k - 1, List.mem_range.2 (by omega), ?_⟩
    rw [show k - 1 + 1 = k by omega]
    simp only [Bool.and_eq_true, decide_eq_true_eq]
    simp only [oneT, mxT] at he
    split at he <;> omega
def lkE (k : Int) : List (Int × Int) → Option Int
  | [] => none
  | (a, v) :: r => if k = a then some v else lkE k r
def setE (k v : Int) : List (Int × Int) → List (Int × Int)
  | [] => [(k, v)]
  | (a, w) :: r => if k = a then (k, v) :: r else (a, w) :: setE k v r
def entE (E : List (Int × Int)) : List (PV × PV) := E.map fun e => (.int .i64 e.1, .int .i64 e.2)
def isE1 : PV × PV → Bool
  | (.int .i64 _, .int .i64 _) => true
  | _ => false
def ofE1 : PV × PV → Int × Int
  | (.int _ a, .int _ b) => (a, b)
  | _ => (0, 0)
def isES (es : List (PV × PV)) : Bool := es.all isE1
def ofES (es : List (PV × PV)) : List (Int × Int) := es.map ofE1
theorem isES_out : ∀ {es : List (PV × PV)}, isES es = true → es = entE (ofES es)
  | [], _ => rfl
  | e :: r, h => by
    simp only [isES, List.all_cons, Bool.and_eq_true] at h
    have ih := isES_out (es := r) h.2
    obtain ⟨p, q⟩ := e
    have h1 := h.1
    unfold isE1 at h1
    split at h1
    · rename_i heq
      injection heq with e1 e2
      subst e1; subst e2
      simp only [entE, ofES, List.map_cons, ofE1] at ih ⊢
      rw [← ih]
    · cases h1
theorem isES_ent (E : List (Int × Int)) : isES (entE E) = true := by simp [isES, entE, isE1]
theorem ofES_ent (E : List (Int × Int)) : ofES (entE E) = E := by
  induction E with
  | nil => rfl
  | cons e r ih =>
    simp only [ofES, entE, List.map_cons, ofE1, List.map_map] at ih ⊢
    rw [ih]
theorem keyEq_int (a b : Int) : keyEq (.int .i64 a) (.int .i64 b) = some (decide (a = b)) := by
  simp only [keyEq, scalEq]
  simp
  rw [Bool.eq_iff_iff]; simp
theorem look_entE {k : Int} : ∀ {E : List (Int × Int)}, look (.int .i64 k) (entE E) = some ((lkE k E).map (PV.int .i64))
  | [] => rfl
  | (a, v) :: r => by
    have ih := look_entE (k := k) (E := r)
    simp only [entE] at ih
    simp only [entE, List.map_cons, look, keyEq_int, lkE]
    by_cases h : k = a
    · simp [h]
    · simp [h, ih]
theorem mset_entE {k v : Int} : ∀ {E : List (Int × Int)}, mset (.int .i64 k) (.int .i64 v) (entE E) = some (entE (setE k v E))
  | [] => rfl
  | (a, w) :: r => by
    have ih := mset_entE (k := k) (v := v) (E := r)
    simp only [entE] at ih
    simp only [entE, List.map_cons, mset, keyEq_int, setE]
    by_cases h : k = a
    · simp [h]
    · simp [h, ih]
theorem lkE_set {k v q : Int} : ∀ {E : List (Int × Int)}, lkE q (setE k v E) = if q = k then some v else lkE q E
  | [] => by simp [setE, lkE]
  | (a, w) :: r => by
    have ih := lkE_set (k := k) (v := v) (q := q) (E := r)
    simp only [setE]
    by_cases h : k = a
    · subst h
      simp only [if_true, lkE]
      by_cases h2 : q = k <;> simp [h2]
    · simp only [if_neg h, lkE, ih]
      by_cases h2 : q = a
      · subst h2; rw [if_pos rfl, if_pos rfl, if_neg (fun e => h (Eq.symm e))]
      · simp only [if_neg h2]
/-- A map that tells no need but the right ones. -/
def okLM (m : Int) (n : Nat) (E : List (Int × Int)) : Prop := ∀ x, isSh x m = true → x.length = n → ∀ v, lkE (kyL 3 x) E = some v → v = lnT m x
theorem okLM_nil (m : Int) (n : Nat) : okLM m n [] := fun x _ _ v h => by cases h
theorem okLM_set {m : Int} {n : Nat} {E : List (Int × Int)} (h : okLM m n E) {x : List Int} (hx : isSh x m = true) (hn : x.length = n) : okLM m n (setE (kyL 3 x) (lnT m x) E) := by
  intro y hy hl v hv
  rw [lkE_set] at hv
  split at hv
  · rename_i e
    have := ky_inj (b := 3) (by omega) (sh_in hy).2 (sh_in hx).2 (by omega) e
    subst this
    injection hv with hv; exact hv.symm
  · exact h y hy hl v hv
abbrev ES := List (Int × Int)
def ofG (N : List Int → ES → Int × ES) (m : Int) (x : List Int) (k : Nat) (E : ES) : Option Int × ES :=
  if aftL m k false x = x ∨ aftL m k true x = x then (none, E) else
    (some (1 + mxT (N (aftL m k false x) E).1 (N (aftL m k true x) (N (aftL m k false x) E).2).1), (N (aftL m k true x) (N (aftL m k false x) E).2).2)
def betT (own best : Int) : Int := if best < 0 ∨ own < best then own else best
def lpG (N : List Int → ES → Int × ES) (m : Int) (x : List Int) (E : ES) : Nat → Int × ES
  | 0 => (-1, E)
  | j + 1 => match (ofG N m x (j + 1) (lpG N m x E j).2).1 with
    | some own => (betT own (lpG N m x E j).1, (ofG N m x (j + 1) (lpG N m x E j).2).2)
    | none => ((lpG N m x E j).1, (ofG N m x (j + 1) (lpG N m x E j).2).2)
def needM (m : Int) : Nat → List Int → ES → Int × ES
  | 0, _, E => (0, E)
  | f + 1, x, E => if (opens x).length < 2 then (0, E) else match lkE (kyL 3 x) E with
    | some v => (v, E)
    | none => ((lpG (needM m f) m x E (x.length - 1)).1, setE (kyL 3 x) (lpG (needM m f) m x E (x.length - 1)).1 (lpG (needM m f) m x E (x.length - 1)).2)
theorem mxT_comm (a b : Int) : mxT a b = mxT b a := by simp only [mxT]; split <;> split <;> omega
/-- What a way of telling needs must do, of states that have less to come. -/
def goodN (N : List Int → ES → Int × ES) (m : Int) (n s : Nat) : Prop := ∀ x, isSh x m = true → x.length = n → msL m x < s → ∀ E, okLM m n E → (N x E).1 = lnT m x ∧ okLM m n (N x E).2
theorem ofG_good {N : List Int → ES → Int × ES} {m : Int} {x : List Int} {n : Nat} (hx : isSh x m = true) (hn : x.length = n) (hN : goodN N m n (msL m x)) {k : Nat} (h1 : 1 ≤ k) (h2 : k < x.length) {E : ES} (hE : okLM m n E) : (ofG N m x k E).1 = (if vldT m x k = true then some (oneT m x k) else none) ∧ okLM m n (ofG N m x k E).2 := by
  have C := CS.of hx
  unfold ofG
  by_cases h : aftL m k false x = x ∨ aftL m k true x = x
  · have hv : ¬ vldT m x k = true := vld_no.2 h
    rw [if_pos h, if_neg hv]; exact ⟨rfl, hE⟩
  · have hv : vldT m x k = true := Decidable.byContradiction fun e => h (vld_no.1 e)
    rw [if_neg h, if_pos hv]
    obtain ⟨n1, n2⟩ := not_or.1 h
    obtain ⟨a1, a2⟩ := hN _ (C.sh k h1 h2 false) (by rw [aftL_len]; exact hn) (C.ms k h1 h2 false n1) E hE
    obtain ⟨b1, b2⟩ := hN _ (C.sh k h1 h2 true) (by rw [aftL_len]; exact hn) (C.ms k h1 h2 true n2) _ a2
    simp only [a1, b1, oneT]
    exact ⟨trivial, b2⟩
/-- The best of the first j comparisons. -/
def bstJ (m : Int) (x : List Int) : Nat → Int
  | 0 => -1
  | j + 1 => if vldT m x (j + 1) = true then betT (oneT m x (j + 1)) (bstJ m x j) else bstJ m x j
theorem lpG_good {N : List Int → ES → Int × ES} {m : Int} {x : List Int} {n : Nat} (hx : isSh x m = true) (hn : x.length = n) (hN : goodN N m n (msL m x)) {E : ES} (hE : okLM m n E) : ∀ j, j < x.length → (lpG N m x E j).1 = bstJ m x j ∧ okLM m n (lpG N m x E j).2
  | 0, _ => ⟨rfl, hE⟩
  | j + 1, h => by
    obtain ⟨i1, i2⟩ := lpG_good hx hn hN hE j (by omega)
    obtain ⟨o1, o2⟩ := ofG_good hx hn hN (k := j + 1) (by omega) h i2
    simp only [lpG, bstJ, o1, i1]
    by_cases hv : vldT m x (j + 1) = true
    · simp only [if_pos hv]; exact ⟨trivial, o2⟩
    · simp only [if_neg hv]; exact ⟨trivial, o2⟩
theorem bst_end {m : Int} {x : List Int} (hx : isSh x m = true) (ho : ¬ (opens x).length < 2) : bstJ m x (x.length - 1) = lnT m x := by
  have C := CS.of hx
  have hp := C.pos ho
  have key : ∀ j, j < x.length → (bstJ m x j = -1 ∨ lnT m x ≤ bstJ m x j) ∧ ((∃ k, 1 ≤ k ∧ k ≤ j ∧ vldT m x k = true ∧ lnT m x = oneT m x k) → bstJ m x j = lnT m x) := by
    intro j
    induction j with
    | zero => intro _; exact ⟨.inl rfl, fun ⟨k, h1, h2, _⟩ => by omega⟩
    | succ j ih =>
      intro hj
      obtain ⟨g1, g2⟩ := ih (by omega)
      simp only [bstJ]
      by_cases hv : vldT m x (j + 1) = true
      · have ha := C.all ho (j + 1) (by omega) hj hv
        simp only [if_pos hv, betT]
        refine ⟨?_, fun ⟨k, h1, h2, h3, h4⟩ => ?_⟩
        · split <;> omega
        · by_cases hk : k = j + 1
          · subst hk
            split
            · omega
            · rcases g1 with g | g <;> omega
          · have := g2 ⟨k, h1, by omega, h3, h4⟩
            split <;> omega
      · simp only [if_neg hv]
        refine ⟨g1, fun ⟨k, h1, h2, h3, h4⟩ => g2 ⟨k, h1, ?_, h3, h4⟩⟩
        have : k ≠ j + 1 := fun e => hv (e ▸ h3)
        omega
  obtain ⟨k, h1, h2, h3, h4⟩ := C.ex ho
  have hl := (sh_out hx).1
  exact (key (x.length - 1) (by omega)).2 ⟨k, h1, by omega, h3, h4⟩
theorem needM_good (m : Int) (n : Nat) : ∀ f, goodN (needM m f) m n f
  | 0 => fun x _ _ h => absurd h (Nat.not_lt_zero _)
  | f + 1 => fun x hx hn hs E hE => by
    have C := CS.of hx
    have ih : goodN (needM m f) m n (msL m x) := fun y hy hl hm => needM_good m n f y hy hl (by omega)
    simp only [needM]
    by_cases ho : (opens x).length < 2
    · rw [if_pos ho]; exact ⟨(C.zero ho).symm, hE⟩
    · rw [if_neg ho]
      cases hl : lkE (kyL 3 x) E with
      | some v => exact ⟨hE x hx hn v hl, hE⟩
      | none =>
        have hl1 := (sh_out hx).1
        obtain ⟨i1, i2⟩ := lpG_good hx hn ih hE (x.length - 1) (by omega)
        rw [bst_end hx ho] at i1
        simp only [i1]
        exact ⟨trivial, okLM_set i2 hx hn⟩
theorem ofG_congr {N N' : List Int → ES → Int × ES} {m : Int} {x : List Int} (hx : isSh x m = true) (h : ∀ y, isSh y m = true → msL m y < msL m x → ∀ E, N y E = N' y E) {k : Nat} (h1 : 1 ≤ k) (h2 : k < x.length) (E : ES) : ofG N m x k E = ofG N' m x k E := by
  have C := CS.of hx
  unfold ofG
  by_cases hq : aftL m k false x = x ∨ aftL m k true x = x
  · rw [if_pos hq, if_pos hq]
  · rw [if_neg hq, if_neg hq]
    obtain ⟨n1, n2⟩ := not_or.1 hq
    rw [h _ (C.sh k h1 h2 false) (C.ms k h1 h2 false n1), h _ (C.sh k h1 h2 true) (C.ms k h1 h2 true n2)]
theorem lpG_congr {N N' : List Int → ES → Int × ES} {m : Int} {x : List Int} (hx : isSh x m = true) (h : ∀ y, isSh y m = true → msL m y < msL m x → ∀ E, N y E = N' y E) (E : ES) : ∀ j, j < x.length → lpG N m x E j = lpG N' m x E j
  | 0, _ => rfl
  | j + 1, hj => by
    simp only [lpG, lpG_congr hx h E j (by omega), ofG_congr hx h (k := j + 1) (by omega) hj]
theorem needM_fuel (m : Int) : ∀ f x, isSh x m = true → msL m x < f → ∀ E, needM m (f + 1) x E = needM m f x E
  | 0, _, _, h, _ => absurd h (Nat.not_lt_zero _)
  | f + 1, x, hx, hs, E => by
    have hl := (sh_out hx).1
    have e := lpG_congr (N := needM m (f + 1)) (N' := needM m f) hx (fun y hy hm E => needM_fuel m f y hy (by omega) E) E (x.length - 1) (by omega)
    rw [needM, needM, e]
/-- The way by the map, and what it makes of the map. -/
def needE (m : Int) : List Int → ES → Int × ES := needM m 12
theorem needE_step {m : Int} {x : List Int} (hx : isSh x m = true) (E : ES) : needE m x E = if (opens x).length < 2 then (0, E) else match lkE (kyL 3 x) E with
    | some v => (v, E)
    | none => ((lpG (needE m) m x E (x.length - 1)).1, setE (kyL 3 x) (lpG (needE m) m x E (x.length - 1)).1 (lpG (needE m) m x E (x.length - 1)).2) := by
  have C := CS.of hx
  have h := needM_fuel m 12 x hx (by have := C.le; omega) E
  rw [needE, ← h, needM]
theorem needE_good {m : Int} {x : List Int} {E : ES} (hx : isSh x m = true) (hE : okLM m x.length E) : (needE m x E).1 = lnT m x ∧ okLM m x.length (needE m x E).2 :=
  needM_good m x.length 12 x hx rfl (by have := (CS.of hx).le; omega) E hE
theorem needE_goodN {m : Int} {x : List Int} (hx : isSh x m = true) : goodN (needE m) m x.length (msL m x) := fun y hy hl hm E hE => by
  rw [← hl] at hE ⊢
  exact needE_good hy hE
def ofE' (m : Int) (x : List Int) (k : Nat) (E : ES) : Option Int × ES := ofG (needE m) m x k E
def lpE (m : Int) (x : List Int) (E : ES) (j : Nat) : Int × ES := lpG (needE m) m x E j
theorem ofE_good {m : Int} {x : List Int} {k : Nat} {E : ES} (hx : isSh x m = true) (h1 : 1 ≤ k) (h2 : k < x.length) (hE : okLM m x.length E) : (ofE' m x k E).1 = (if vldT m x k = true then some (oneT m x k) else none) ∧ okLM m x.length (ofE' m x k E).2 :=
  ofG_good hx rfl (needE_goodN hx) h1 h2 hE
theorem lpE_good {m : Int} {x : List Int} {E : ES} (hx : isSh x m = true) (hE : okLM m x.length E) {j : Nat} (h : j < x.length) : (lpE m x E j).1 = bstJ m x j ∧ okLM m x.length (lpE m x E j).2 :=
  lpG_good hx rfl (needE_goodN hx) hE j h
/-- The question of a comparison. -/
def lsQ (k : Nat) : Int := ((2 ^ k : Nat) : Int) - 1
theorem bit_ls : ∀ k : Nat, k < 6 → ∀ i : Nat, i < 5 → (bitW (lsQ k) (i : Int) == 1) = decide (i < k) := by decide
theorem aft_ls {k : Nat} (hk : k ≤ 5) {m : Int} {y : Bool} {x : List Int} (hx : x.length ≤ 5) : afterL (fun i => (bitW (lsQ k) (i : Int) == 1) != y) m x = aftL m k y x := by
  simp only [aftL, afterL]
  apply List.map_congr_left
  intro i hi
  have hi := List.mem_range.1 hi
  simp only [afterF, bit_ls k (by omega) i (by omega)]
theorem shl5 {k : Nat} (h : k ≤ 5) : IntKind.i64.wrap (1 * 2 ^ min k IntKind.i64.bits) = ((2 ^ k : Nat) : Int) ∧ IntKind.i64.wrap (((2 ^ k : Nat) : Int) - 1) = lsQ k := by
  have : k = 0 ∨ k = 1 ∨ k = 2 ∨ k = 3 ∨ k = 4 ∨ k = 5 := by omega
  rcases this with h | h | h | h | h | h <;> subst h <;> decide
theorem sh_1000 {x : List Int} {m : Int} (h : isSh x m = true) : (x.all fun v => decide (v ≤ 1000)) = true := by
  obtain ⟨_, _, hm, h4⟩ := sh_out h
  rw [List.all_eq_true]
  intro v hv
  have := h4 v hv
  rw [decide_eq_true_eq]; omega
theorem sh_len {x : List Int} {m : Int} (h : isSh x m = true) : x.length ≤ 1100000 := by have := (sh_out h).2.1; omega
def a_less : AFn := ⟨1, 
  .seq (.reg [⟨some 2, none, .d (.mv (.c (.int .i64 0)))⟩])
  (.seq (.reg [⟨some 3, none, .d (.mv (.t 0))⟩,
    ⟨some 4, none, .d (.bin .arith .shl (.c (.int .i64 1)) (.t 3))⟩,
    ⟨some 5, none, .d (.bin .arith .sub (.t 4) (.c (.int .i64 1)))⟩,
    ⟨some 2, none, .d (.mv (.t 5))⟩])
  (.ret)), [.tmp 2]⟩
def n_less : Nat → Option Ann := fun _ => none
abbrev k_less : List Nat := [0, 2]
abbrev o_less : List Nat := []
def c_less : Con := pure' fun
  | [.p (.int .i64 k)] => if (0 ≤ k ∧ k ≤ 5) then some (.p (.int .i64 (lsQ k.toNat)), []) else none
  | _ => none
theorem s_less {P : Program} (hm : P.follows .mixedOrders = true) {Γ : Gam} (hΓ : GS P Γ) {n : FuncId} (is : Is P n a_less)  : Says P n c_less := by
  refine Says.pure fun args r fs h => ?_
  split at h
  case h_2 => cases h
  rename_i k
  split at h
  case isFalse => cases h
  rename_i hc
  simp only [ofI_ints, ofBo_bools, ofAs_asks, Option.some.injEq, Prod.mk.injEq] at h hc
  obtain ⟨rfl, rfl⟩ := h
  obtain ⟨h0, h1⟩ := hc
  obtain ⟨k, rfl⟩ : ∃ j : Nat, k = j := ⟨k.toNat, by omega⟩
  obtain ⟨s1, s2⟩ := shl5 (k := k) (by omega)
  have hn : ¬ (k : Int) < 0 := by omega
  simp only [Int.toNat_natCast]
  refine is.go hm hΓ k_less o_less (by simp [a_less]) ?_
  simp only [a_less, s1, s2, hn, Int.toNat_natCast, List.zipIdx_cons, List.zipIdx_nil, ↓SP, SQ, Gam.add, stepM, callC, argC, lendO, nmBy, nmC, likeL, likeB, plainOb, offs, exL, X, F, trP, trO, stepD, stepW, newA, SV.tr, SV.trL, fz, allP, Ob.tr, loadA, cellsA, SV.cells, binA, binI, eqOut, isSl, isPt, natOf, callee, snap, SV.refsL, SV.refs, thaw, fzAll, loA, hiA, elemOf, partsA, buildA, putCells, ↓reduceIte, reduceCtorEq, okCell, Nat.reduceAdd, Nat.reduceEqDiff, Nat.reduceSub, Nat.reduceMul, Nat.reduceLeDiff, Nat.reduceLT, Nat.reduceBEq, PV.scal, PV.scalL, SV.scal, SV.scalL, Ob.scal, PV.isCell, pure', resO]
  exact finA_val (by simp [retA, rvA, List.mapM_cons, List.mapM_nil, Option.pure_def, Option.bind_eq_bind, Option.bind_some, Option.map_some, mkE_cons, mk_nil, mkO_cons, mkO_nil, loadA, ↓reduceIte, List.take_succ_cons, List.take_zero, List.drop_zero, List.drop_succ_cons, List.length_cons, List.length_nil, Nat.reduceAdd, Nat.reduceEqDiff, Nat.reduceLeDiff, Nat.zero_add, Nat.le_refl, reduceCtorEq, SV.tr, SV.trL, nmF, rn_nil, rn_cons1, rn_cons2, List.map_cons, List.map_nil, List.all_cons, List.all_nil, plainOb, SV.refsL, SV.refs, Ob.refs, X, F, List.range_succ, List.range_zero, List.nil_append, List.cons_append, List.isEmpty_nil, decide_true, Nat.reduceLT, Bool.and_self, Bool.and_true, and_self, and_true, List.getElem?_cons_zero, List.getElem?_cons_succ, List.nodup_cons, List.nodup_nil, List.mem_cons, List.not_mem_nil, not_false_eq_true, or_false, List.append_nil, mkO, setO_mk, List.mem_singleton]) (by simp [SV.tr, SV.trL])
def a_bothA (f_answered : FuncId) : AFn := ⟨2, 
  .seq (.reg [⟨some 2, none, .w (.box 2 (.t 0))⟩,
    ⟨some 4, none, .w (.alloc [.nilsl, .int .i64 0, .nilsl, .int .i64 0])⟩])
  (.seq (.dreg [] [([], ⟨some 5, none, .d (.load true 2 (.t 2))⟩),
    ([], ⟨some 6, none, .d (.mv (.t 1))⟩),
    ([], ⟨some 7, none, .d (.build [.int .i64 0, .bool false] [(0, 1, (.t 6)), (1, 1, (.c (.bool false)))])⟩),
    ([], ⟨some 8, none, .d (.call (.f f_answered) [(.t 5), (.t 7)])⟩),
    ([], ⟨some 9, none, .d (.load true 2 (.t 2))⟩),
    ([], ⟨some 10, none, .d (.mv (.t 1))⟩),
    ([], ⟨some 11, none, .d (.build [.int .i64 0, .bool false] [(0, 1, (.t 10)), (1, 1, (.c (.bool true)))])⟩)] [⟨some 12, none, .d (.call (.f f_answered) [(.t 9), (.t 11)])⟩,
    ⟨some 13, none, .d (.build [.nilsl, .int .i64 0, .nilsl, .int .i64 0] [(0, 2, (.t 8)), (2, 2, (.t 12))])⟩,
    ⟨none, none, .w (.store 4 (.t 4) (.t 13))⟩])
  (.ret)), [.cell 4 4 true]⟩
def n_bothA : Nat → Option Ann := fun _ => none
abbrev k_bothA : List Nat := [0, 1, 2, 4]
abbrev o_bothA : List Nat := [2, 4]
def c_bothA : Con := pure' fun
  | [.p (.agg [.sl 1 x_, .int .i64 m]), .p (.int .i64 q)] => if isI x_ = true ∧ ((ofI x_).length ≤ 1100000 ∧ ((ofI x_).all fun v => decide (v ≤ 1000)) = true) then some (.ag [.p (.sl 1 (ints (afterL (fun i => (bitW q (i : Int) == 1) != false) m (ofI x_)))), .p (.int .i64 m), .p (.sl 1 (ints (afterL (fun i => (bitW q (i : Int) == 1) != true) m (ofI x_)))), .p (.int .i64 m)], []) else none
  | _ => none
theorem s_bothA {P : Program} (hm : P.follows .mixedOrders = true) {Γ : Gam} (hΓ : GS P Γ) {n : FuncId} {f_answered : FuncId} (is : Is P n (a_bothA f_answered)) (h_answered : Γ f_answered = c_answered)  : Says P n c_bothA := by
  refine Says.pure fun args r fs h => ?_
  split at h
  case h_2 => cases h
  rename_i x_ m q
  split at h
  case isFalse => cases h
  rename_i hc
  obtain ⟨hx_, hc⟩ := hc
  obtain ⟨x, rfl⟩ := isI_out hx_
  simp only [ofI_ints, ofBo_bools, ofAs_asks, Option.some.injEq, Prod.mk.injEq] at h hc
  obtain ⟨rfl, rfl⟩ := h
  refine is.go hm hΓ k_bothA o_bothA (by simp [a_bothA]) ?_
  simp only [a_bothA, h_answered, c_answered, hc, List.zipIdx_cons, List.zipIdx_nil, ↓SP, SQ, Gam.add, stepM, callC, argC, lendO, nmBy, nmC, likeL, likeB, plainOb, offs, exL, X, F, trP, trO, stepD, stepW, newA, SV.tr, SV.trL, fz, allP, Ob.tr, loadA, cellsA, SV.cells, binA, binI, eqOut, isSl, isPt, natOf, callee, snap, SV.refsL, SV.refs, thaw, fzAll, loA, hiA, elemOf, partsA, buildA, putCells, ↓reduceIte, reduceCtorEq, okCell, Nat.reduceAdd, Nat.reduceEqDiff, Nat.reduceSub, Nat.reduceMul, Nat.reduceLeDiff, Nat.reduceLT, Nat.reduceBEq, PV.scal, PV.scalL, SV.scal, SV.scalL, Ob.scal, PV.isCell, pure', resO]
  exact finA_val (by simp [retA, rvA, List.mapM_cons, List.mapM_nil, Option.pure_def, Option.bind_eq_bind, Option.bind_some, Option.map_some, mkE_cons, mk_nil, mkO_cons, mkO_nil, loadA, ↓reduceIte, List.take_succ_cons, List.take_zero, List.drop_zero, List.drop_succ_cons, List.length_cons, List.length_nil, Nat.reduceAdd, Nat.reduceEqDiff, Nat.reduceLeDiff, Nat.zero_add, Nat.le_refl, reduceCtorEq, SV.tr, SV.trL, nmF, rn_nil, rn_cons1, rn_cons2, List.map_cons, List.map_nil, List.all_cons, List.all_nil, plainOb, SV.refsL, SV.refs, Ob.refs, X, F, List.range_succ, List.range_zero, List.nil_append, List.cons_append, List.isEmpty_nil, decide_true, Nat.reduceLT, Bool.and_self, Bool.and_true, and_self, and_true, List.getElem?_cons_zero, List.getElem?_cons_succ, List.nodup_cons, List.nodup_nil, List.mem_cons, List.not_mem_nil, not_false_eq_true, or_false, List.append_nil, mkO, setO_mk, List.mem_singleton]) (by simp [SV.tr, SV.trL])
theorem ky_small {b : Nat} (hb : b = 2 ∨ b = 3) {x : List Int} (h : inB b x = true) (hl : x.length ≤ 5) {i : Nat} (hi : i ≤ x.length) : 0 ≤ kyI b x i ∧ kyI b x i ≤ 243 := by
  obtain ⟨h0, h1, _⟩ := ky_dg (b := b) (by omega) h i hi
  have : b ^ i ≤ 3 ^ 5 := Nat.le_trans (Nat.pow_le_pow_left (by omega) i) (Nat.pow_le_pow_right (by omega) (by omega))
  exact ⟨h0, by omega⟩
def a_codeS : AFn := ⟨1, 
  .seq (.reg [⟨some 1, none, .w (.box 2 (.t 0))⟩,
    ⟨some 2, none, .d (.mv (.c (.int .i64 0)))⟩])
  (.seq (.reg [⟨some 3, none, .d (.mv (.c (.int .i64 0)))⟩])
  (.seq (.seq (.reg [⟨some 6, none, .d (.fa 0 (.t 1))⟩,
    ⟨some 7, none, .d (.load false 1 (.t 6))⟩,
    ⟨some 8, none, .d (.len (.t 7))⟩,
    ⟨some 9, none, .d (.mv (.c (.int .i64 0)))⟩])
  (.block 0 (.loop (.seq (.reg [⟨some 10, none, .d (.bin .arith .lss (.t 9) (.t 8))⟩])
    (.seq (.cond (.t 10) (.skip) (.exit 0))
    (.seq (.block 1 (.seq (.reg [⟨some 11, none, .d (.ia 1 (.t 7) (.t 9))⟩,
       ⟨some 12, none, .d (.load false 1 (.t 11))⟩,
       ⟨some 5, none, .d (.mv (.t 12))⟩])
     (.reg [⟨some 13, none, .d (.mv (.t 3))⟩,
       ⟨some 14, none, .d (.bin .arith .mul (.t 13) (.c (.int .i64 3)))⟩,
       ⟨some 15, none, .d (.mv (.t 5))⟩,
       ⟨some 16, none, .d (.bin .arith .add (.t 14) (.t 15))⟩,
       ⟨some 17, none, .d (.bin .arith .add (.t 16) (.c (.int .i64 1)))⟩,
       ⟨some 3, none, .d (.mv (.t 17))⟩])))
    (.reg [⟨some 18, none, .d (.bin .arith .add (.t 9) (.c (.int .i64 1)))⟩,
      ⟨some 9, none, .d (.mv (.t 18))⟩])))))))
  (.seq (.reg [⟨some 19, none, .d (.mv (.t 3))⟩,
    ⟨some 2, none, .d (.mv (.t 19))⟩])
  (.ret)))), [.tmp 2]⟩
def n_codeS : Nat → Option Ann := fun _ => none
abbrev k_codeS : List Nat := [0, 1, 2, 3, 5, 7, 8, 9, 10]
abbrev o_codeS : List Nat := [1]
def c_codeS : Con := pure' fun
  | [.p (.agg [.sl 1 x_, .int .i64 m])] => if isI x_ = true ∧ (isSh (ofI x_) m = true) then some (.p (.int .i64 (kyL 3 (ofI x_))), []) else none
  | _ => none
theorem s_codeS {P : Program} (hm : P.follows .mixedOrders = true) {Γ : Gam} (hΓ : GS P Γ) {n : FuncId} (is : Is P n a_codeS)  : Says P n c_codeS := by
  refine Says.pure fun args r fs h => ?_
  split at h
  case h_2 => cases h
  rename_i x_ m
  split at h
  case isFalse => cases h
  rename_i hc
  obtain ⟨hx_, hc⟩ := hc
  obtain ⟨x, rfl⟩ := isI_out hx_
  simp only [ofI_ints, ofBo_bools, ofAs_asks, Option.some.injEq, Prod.mk.injEq] at h hc
  obtain ⟨rfl, rfl⟩ := h
  have hin := (sh_in hc).2
  obtain ⟨hl1, hl5, hmm, hv⟩ := sh_out hc
  refine is.go hm hΓ k_codeS o_codeS (by simp [a_codeS]) ?_
  simp only [a_codeS, List.zipIdx_cons, List.zipIdx_nil, ↓SP, SQ, Gam.add, stepM, callC, argC, lendO, nmBy, nmC, likeL, likeB, plainOb, offs, exL, X, F, trP, trO, stepD, stepW, newA, SV.tr, SV.trL, fz, allP, Ob.tr, loadA, cellsA, SV.cells, binA, binI, eqOut, isSl, isPt, natOf, callee, snap, SV.refsL, SV.refs, thaw, fzAll, loA, hiA, elemOf, partsA, buildA, putCells, ↓reduceIte, reduceCtorEq, okCell, Nat.reduceAdd, Nat.reduceEqDiff, Nat.reduceSub, Nat.reduceMul, Nat.reduceLeDiff, Nat.reduceLT, Nat.reduceBEq, PV.scal, PV.scalL, SV.scal, SV.scalL, Ob.scal, PV.isCell, pure', resO]
  refine loop_at (fun s : Nat × SV × SV => mkEnv [(0, .p (.agg [.sl 1 (ints x), .int .i64 m])), (1, .bx 1 0), (2, si 0), (3, si (kyI 3 x s.1)), (5, s.2.1), (7, .p (.sl 1 (ints x))), (8, si x.length), (9, si s.1), (10, s.2.2)]) (fun _ => mkO [(1, some (.box [.p (.sl 1 (ints x)), si m]))]) (fun s => s.1 ≤ x.length) (fun s => x.length - s.1) (0, .junk, .junk) (by simp) rfl rfl ?_
  rintro ⟨i, c1, c2⟩ hi R hR hN
  simp only at hi
  by_cases h : i < x.length
  · have h1 : (i : Int) < x.length := by omega
    have hw := wrap_one (i := i) (by omega)
    have hg := ints_get h
    obtain ⟨b0, b1⟩ : 0 ≤ kyI 3 x i ∧ kyI 3 x i ≤ 243 := ky_small (b := 3) (.inr rfl) hin hl5 (i := i) hi
    obtain ⟨v0, v1⟩ := inB_get hin h
    have w1 : IntKind.i64.wrap (kyI 3 x i * 3) = kyI 3 x i * 3 := wrap64 (by omega) (by omega)
    have w2 : IntKind.i64.wrap (kyI 3 x i * 3 + x.getD i 0) = kyI 3 x i * 3 + x.getD i 0 := wrap64 (by omega) (by omega)
    have w3 : IntKind.i64.wrap (kyI 3 x i * 3 + x.getD i 0 + 1) = kyI 3 x (i + 1) := by rw [wrap64 (by omega) (by omega)]; rfl
    simp only [h1, hw, hg, w1, w2, w3, ↓SP, SQ, Gam.add, stepM, callC, argC, lendO, nmBy, nmC, likeL, likeB, plainOb, offs, exL, X, F, trP, trO, stepD, stepW, newA, SV.tr, SV.trL, fz, allP, Ob.tr, loadA, cellsA, SV.cells, binA, binI, eqOut, isSl, isPt, natOf, callee, snap, SV.refsL, SV.refs, thaw, fzAll, loA, hiA, elemOf, partsA, buildA, putCells, ↓reduceIte, reduceCtorEq, okCell, Nat.reduceAdd, Nat.reduceEqDiff, Nat.reduceSub, Nat.reduceMul, Nat.reduceLeDiff, Nat.reduceLT, Nat.reduceBEq, PV.scal, PV.scalL, SV.scal, SV.scalL, Ob.scal, PV.isCell, pure', resO]
    exact hN (i + 1, _, _) _ _ (by simp only; omega) (by simp only; omega) rfl rfl
  · have he : i = x.length := by omega
    have h1 : ¬ (i : Int) < x.length := by omega
    simp only [h1, ↓SP, SQ, Gam.add, stepM, callC, argC, lendO, nmBy, nmC, likeL, likeB, plainOb, offs, exL, X, F, trP, trO, stepD, stepW, newA, SV.tr, SV.trL, fz, allP, Ob.tr, loadA, cellsA, SV.cells, binA, binI, eqOut, isSl, isPt, natOf, callee, snap, SV.refsL, SV.refs, thaw, fzAll, loA, hiA, elemOf, partsA, buildA, putCells, ↓reduceIte, reduceCtorEq, okCell, Nat.reduceAdd, Nat.reduceEqDiff, Nat.reduceSub, Nat.reduceMul, Nat.reduceLeDiff, Nat.reduceLT, Nat.reduceBEq, PV.scal, PV.scalL, SV.scal, SV.scalL, Ob.scal, PV.isCell, pure', resO]
    refine hR _ _ _ (by intro h; cases h) ?_
    simp only [↓SP, SQ, Gam.add, stepM, callC, argC, lendO, nmBy, nmC, likeL, likeB, plainOb, offs, exL, X, F, trP, trO, stepD, stepW, newA, SV.tr, SV.trL, fz, allP, Ob.tr, loadA, cellsA, SV.cells, binA, binI, eqOut, isSl, isPt, natOf, callee, snap, SV.refsL, SV.refs, thaw, fzAll, loA, hiA, elemOf, partsA, buildA, putCells, ↓reduceIte, reduceCtorEq, okCell, Nat.reduceAdd, Nat.reduceEqDiff, Nat.reduceSub, Nat.reduceMul, Nat.reduceLeDiff, Nat.reduceLT, Nat.reduceBEq, PV.scal, PV.scalL, SV.scal, SV.scalL, Ob.scal, PV.isCell, pure', resO]
    subst he
    exact finA_val (by simp [kyL, retA, rvA, List.mapM_cons, List.mapM_nil, Option.pure_def, Option.bind_eq_bind, Option.bind_some, Option.map_some, mkE_cons, mk_nil, mkO_cons, mkO_nil, loadA, ↓reduceIte, List.take_succ_cons, List.take_zero, List.drop_zero, List.drop_succ_cons, List.length_cons, List.length_nil, Nat.reduceAdd, Nat.reduceEqDiff, Nat.reduceLeDiff, Nat.zero_add, Nat.le_refl, reduceCtorEq, SV.tr, SV.trL, nmF, rn_nil, rn_cons1, rn_cons2, List.map_cons, List.map_nil, List.all_cons, List.all_nil, plainOb, SV.refsL, SV.refs, Ob.refs, X, F, List.range_succ, List.range_zero, List.nil_append, List.cons_append, List.isEmpty_nil, decide_true, Nat.reduceLT, Bool.and_self, Bool.and_true, and_self, and_true, List.getElem?_cons_zero, List.getElem?_cons_succ, List.nodup_cons, List.nodup_nil, List.mem_cons, List.not_mem_nil, not_false_eq_true, or_false, List.append_nil, mkO, setO_mk, List.mem_singleton]) (by simp [SV.tr, SV.trL])
def a_isEqualS (f_codeS : FuncId) : AFn := ⟨2, 
  .seq (.reg [⟨some 2, none, .w (.box 2 (.t 0))⟩,
    ⟨some 3, none, .w (.box 2 (.t 1))⟩,
    ⟨some 4, none, .d (.mv (.c (.bool false)))⟩])
  (.seq (.dreg [] [([], ⟨some 5, none, .d (.load true 2 (.t 2))⟩),
    ([], ⟨some 6, none, .d (.call (.f f_codeS) [(.t 5)])⟩),
    ([], ⟨some 7, none, .d (.load true 2 (.t 3))⟩)] [⟨some 8, none, .d (.call (.f f_codeS) [(.t 7)])⟩,
    ⟨some 9, none, .d (.bin .arith .eql (.t 6) (.t 8))⟩,
    ⟨some 4, none, .d (.mv (.t 9))⟩])
  (.ret)), [.tmp 4]⟩
def n_isEqualS : Nat → Option Ann := fun _ => none
abbrev k_isEqualS : List Nat := [0, 1, 2, 3, 4]
abbrev o_isEqualS : List Nat := [2, 3]
def c_isEqualS : Con := pure' fun
  | [.p (.agg [.sl 1 x_, .int .i64 m]), .p (.agg [.sl 1 y_, .int .i64 q])] => if isI x_ = true ∧ isI y_ = true ∧ (isSh (ofI x_) m = true ∧ isSh (ofI y_) q = true) then some (.p (.bool (decide (kyL 3 (ofI x_) = kyL 3 (ofI y_)))), []) else none
  | _ => none
theorem s_isEqualS {P : Program} (hm : P.follows .mixedOrders = true) {Γ : Gam} (hΓ : GS P Γ) {n : FuncId} {f_codeS : FuncId} (is : Is P n (a_isEqualS f_codeS)) (h_codeS : Γ f_codeS = c_codeS)  : Says P n c_isEqualS := by
  refine Says.pure fun args r fs h => ?_
  split at h
  case h_2 => cases h
  rename_i x_ m y_ q
  split at h
  case isFalse => cases h
  rename_i hc
  obtain ⟨hx_, hc⟩ := hc
  obtain ⟨x, rfl⟩ := isI_out hx_
  obtain ⟨hy_, hc⟩ := hc
  obtain ⟨y, rfl⟩ := isI_out hy_
  simp only [ofI_ints, ofBo_bools, ofAs_asks, Option.some.injEq, Prod.mk.injEq] at h hc
  obtain ⟨rfl, rfl⟩ := h
  by_cases he : kyL 3 x = kyL 3 y
  · refine is.go hm hΓ k_isEqualS o_isEqualS (by simp [a_isEqualS]) ?_
    simp only [a_isEqualS, h_codeS, c_codeS, hc, he, beq_self_eq_true, List.zipIdx_cons, List.zipIdx_nil, ↓SP, SQ, Gam.add, stepM, callC, argC, lendO, nmBy, nmC, likeL, likeB, plainOb, offs, exL, X, F, trP, trO, stepD, stepW, newA, SV.tr, SV.trL, fz, allP, Ob.tr, loadA, cellsA, SV.cells, binA, binI, eqOut, isSl, isPt, natOf, callee, snap, SV.refsL, SV.refs, thaw, fzAll, loA, hiA, elemOf, partsA, buildA, putCells, ↓reduceIte, reduceCtorEq, okCell, Nat.reduceAdd, Nat.reduceEqDiff, Nat.reduceSub, Nat.reduceMul, Nat.reduceLeDiff, Nat.reduceLT, Nat.reduceBEq, PV.scal, PV.scalL, SV.scal, SV.scalL, Ob.scal, PV.isCell, pure', resO]
    exact finA_val (by simp [he, retA, rvA, List.mapM_cons, List.mapM_nil, Option.pure_def, Option.bind_eq_bind, Option.bind_some, Option.map_some, mkE_cons, mk_nil, mkO_cons, mkO_nil, loadA, ↓reduceIte, List.take_succ_cons, List.take_zero, List.drop_zero, List.drop_succ_cons, List.length_cons, List.length_nil, Nat.reduceAdd, Nat.reduceEqDiff, Nat.reduceLeDiff, Nat.zero_add, Nat.le_refl, reduceCtorEq, SV.tr, SV.trL, nmF, rn_nil, rn_cons1, rn_cons2, List.map_cons, List.map_nil, List.all_cons, List.all_nil, plainOb, SV.refsL, SV.refs, Ob.refs, X, F, List.range_succ, List.range_zero, List.nil_append, List.cons_append, List.isEmpty_nil, decide_true, Nat.reduceLT, Bool.and_self, Bool.and_true, and_self, and_true, List.getElem?_cons_zero, List.getElem?_cons_succ, List.nodup_cons, List.nodup_nil, List.mem_cons, List.not_mem_nil, not_false_eq_true, or_false, List.append_nil, mkO, setO_mk, List.mem_singleton]) (by simp [SV.tr, SV.trL])
  · have hb : (kyL 3 x == kyL 3 y) = false := beq_eq_false_iff_ne.2 he
    refine is.go hm hΓ k_isEqualS o_isEqualS (by simp [a_isEqualS]) ?_
    simp only [a_isEqualS, h_codeS, c_codeS, hc, he, hb, List.zipIdx_cons, List.zipIdx_nil, ↓SP, SQ, Gam.add, stepM, callC, argC, lendO, nmBy, nmC, likeL, likeB, plainOb, offs, exL, X, F, trP, trO, stepD, stepW, newA, SV.tr, SV.trL, fz, allP, Ob.tr, loadA, cellsA, SV.cells, binA, binI, eqOut, isSl, isPt, natOf, callee, snap, SV.refsL, SV.refs, thaw, fzAll, loA, hiA, elemOf, partsA, buildA, putCells, ↓reduceIte, reduceCtorEq, okCell, Nat.reduceAdd, Nat.reduceEqDiff, Nat.reduceSub, Nat.reduceMul, Nat.reduceLeDiff, Nat.reduceLT, Nat.reduceBEq, PV.scal, PV.scalL, SV.scal, SV.scalL, Ob.scal, PV.isCell, pure', resO]
    exact finA_val (by simp [he, retA, rvA, List.mapM_cons, List.mapM_nil, Option.pure_def, Option.bind_eq_bind, Option.bind_some, Option.map_some, mkE_cons, mk_nil, mkO_cons, mkO_nil, loadA, ↓reduceIte, List.take_succ_cons, List.take_zero, List.drop_zero, List.drop_succ_cons, List.length_cons, List.length_nil, Nat.reduceAdd, Nat.reduceEqDiff, Nat.reduceLeDiff, Nat.zero_add, Nat.le_refl, reduceCtorEq, SV.tr, SV.trL, nmF, rn_nil, rn_cons1, rn_cons2, List.map_cons, List.map_nil, List.all_cons, List.all_nil, plainOb, SV.refsL, SV.refs, Ob.refs, X, F, List.range_succ, List.range_zero, List.nil_append, List.cons_append, List.isEmpty_nil, decide_true, Nat.reduceLT, Bool.and_self, Bool.and_true, and_self, and_true, List.getElem?_cons_zero, List.getElem?_cons_succ, List.nodup_cons, List.nodup_nil, List.mem_cons, List.not_mem_nil, not_false_eq_true, or_false, List.append_nil, mkO, setO_mk, List.mem_singleton]) (by simp [SV.tr, SV.trL])
def a_newLesser : AFn := ⟨0, 
  .seq (.reg [⟨some 0, none, .w (.alloc [.nilmap])⟩])
  (.seq (.reg [⟨some 1, none, .w (.mkmap)⟩,
    ⟨some 2, none, .d (.build [.nilmap] [(0, 1, (.t 1))])⟩,
    ⟨none, none, .w (.store 1 (.t 0) (.t 2))⟩])
  (.ret)), [.cell 0 1 true]⟩
def n_newLesser : Nat → Option Ann := fun _ => none
abbrev k_newLesser : List Nat := [0]
abbrev o_newLesser : List Nat := [0, 1]
def c_newLesser : Con := pure' fun
  | [] => some (.ag [.mp 2000000], [.map []])
  | _ => none
theorem s_newLesser {P : Program} (hm : P.follows .mixedOrders = true) {Γ : Gam} (hΓ : GS P Γ) {n : FuncId} (is : Is P n a_newLesser)  : Says P n c_newLesser := by
  refine Says.pure fun args r fs h => ?_
  split at h
  case h_2 => cases h
  simp only [Option.some.injEq, Prod.mk.injEq] at h
  obtain ⟨rfl, rfl⟩ := h
  refine is.go hm hΓ k_newLesser o_newLesser (by simp [a_newLesser]) ?_
  simp only [a_newLesser, List.zipIdx_cons, List.zipIdx_nil, ↓SP, SQ, Gam.add, stepM, callC, argC, lendO, nmBy, nmC, likeL, likeB, plainOb, offs, exL, X, F, trP, trO, stepD, stepW, newA, SV.tr, SV.trL, fz, allP, Ob.tr, loadA, cellsA, SV.cells, binA, binI, eqOut, isSl, isPt, natOf, callee, snap, SV.refsL, SV.refs, thaw, fzAll, loA, hiA, elemOf, partsA, buildA, putCells, ↓reduceIte, reduceCtorEq, okCell, Nat.reduceAdd, Nat.reduceEqDiff, Nat.reduceSub, Nat.reduceMul, Nat.reduceLeDiff, Nat.reduceLT, Nat.reduceBEq, PV.scal, PV.scalL, SV.scal, SV.scalL, Ob.scal, PV.isCell, pure', resO]
  refine finA_gen [1] trivial (by simp [retA, rvA, List.mapM_cons, List.mapM_nil, Option.pure_def, Option.bind_eq_bind, Option.bind_some, Option.map_some, mkE_cons, mk_nil, mkO_cons, mkO_nil, loadA, ↓reduceIte, List.take_succ_cons, List.take_zero, List.drop_zero, List.drop_succ_cons, List.length_cons, List.length_nil, Nat.reduceAdd, Nat.reduceEqDiff, Nat.reduceLeDiff, Nat.zero_add, Nat.le_refl, reduceCtorEq, SV.tr, SV.trL, nmF, rn_nil, rn_cons1, rn_cons2, List.map_cons, List.map_nil, List.all_cons, List.all_nil, plainOb, SV.refsL, SV.refs, Ob.refs, X, F, List.range_succ, List.range_zero, List.nil_append, List.cons_append, List.isEmpty_nil, decide_true, Nat.reduceLT, Bool.and_self, Bool.and_true, and_self, and_true, List.getElem?_cons_zero, List.getElem?_cons_succ, List.nodup_cons, List.nodup_nil, List.mem_cons, List.not_mem_nil, not_false_eq_true, or_false, List.append_nil, mkO, setO_mk, List.mem_singleton]; rfl) ?_ ?_ ?_ ?_ ?_ ?_ ?_ <;> simp [retA, rvA, List.mapM_cons, List.mapM_nil, Option.pure_def, Option.bind_eq_bind, Option.bind_some, Option.map_some, mkE_cons, mk_nil, mkO_cons, mkO_nil, loadA, ↓reduceIte, List.take_succ_cons, List.take_zero, List.drop_zero, List.drop_succ_cons, List.length_cons, List.length_nil, Nat.reduceAdd, Nat.reduceEqDiff, Nat.reduceLeDiff, Nat.zero_add, Nat.le_refl, reduceCtorEq, SV.tr, SV.trL, nmF, rn_nil, rn_cons1, rn_cons2, List.map_cons, List.map_nil, List.all_cons, List.all_nil, plainOb, SV.refsL, SV.refs, Ob.refs, X, F, List.range_succ, List.range_zero, List.nil_append, List.cons_append, List.isEmpty_nil, decide_true, Nat.reduceLT, Bool.and_self, Bool.and_true, and_self, and_true, List.getElem?_cons_zero, List.getElem?_cons_succ, List.nodup_cons, List.nodup_nil, List.mem_cons, List.not_mem_nil, not_false_eq_true, or_false, List.append_nil, mkO, setO_mk, List.mem_singleton]
def a_l6Key : AFn := ⟨1, 
  .seq (.reg [⟨some 1, none, .w (.box 2 (.t 0))⟩,
    ⟨some 2, none, .d (.mv (.c (.int .i64 0)))⟩])
  (.seq (.reg [⟨some 3, none, .d (.mv (.c (.int .i64 0)))⟩])
  (.seq (.seq (.reg [⟨some 4, none, .d (.mv (.c (.int .i64 0)))⟩])
  (.block 0 (.loop (.seq (.seq (.reg [⟨some 5, none, .d (.mv (.t 4))⟩,
      ⟨some 6, none, .d (.fa 0 (.t 1))⟩,
      ⟨some 7, none, .d (.load false 1 (.t 6))⟩,
      ⟨some 8, none, .d (.len (.t 7))⟩,
      ⟨some 9, none, .d (.bin .arith .lss (.t 5) (.t 8))⟩])
    (.cond (.t 9) (.skip) (.exit 0)))
    (.seq (.block 1 (.dreg [] [([], ⟨some 12, none, .d (.mv (.t 3))⟩),
       ([], ⟨some 13, none, .d (.fa 1 (.t 1))⟩),
       ([], ⟨some 14, none, .d (.load false 1 (.t 13))⟩),
       ([], ⟨some 15, none, .d (.bin .arith .add (.t 14) (.c (.int .i64 2)))⟩),
       ([], ⟨some 16, none, .d (.bin .arith .mul (.t 12) (.t 15))⟩),
       ([], ⟨some 17, none, .d (.fa 0 (.t 1))⟩),
       ([], ⟨some 18, none, .d (.load false 1 (.t 17))⟩),
       ([], ⟨some 19, none, .d (.mv (.t 4))⟩),
       ([], ⟨some 20, none, .d (.ia 1 (.t 18) (.t 19))⟩),
       ([], ⟨some 21, none, .d (.load false 1 (.t 20))⟩)] [⟨some 22, none, .d (.bin .arith .add (.t 16) (.t 21))⟩,
       ⟨some 23, none, .d (.bin .arith .add (.t 22) (.c (.int .i64 1)))⟩,
       ⟨some 3, none, .d (.mv (.t 23))⟩]))
    (.reg [⟨some 10, none, .d (.mv (.t 4))⟩,
      ⟨some 11, none, .d (.bin .arith .add (.t 10) (.c (.int .i64 1)))⟩,
      ⟨some 4, none, .d (.mv (.t 11))⟩]))))))
  (.seq (.reg [⟨some 24, none, .d (.mv (.t 3))⟩,
    ⟨some 2, none, .d (.mv (.t 24))⟩])
  (.ret)))), [.tmp 2]⟩
def n_l6Key : Nat → Option Ann := fun _ => none
abbrev k_l6Key : List Nat := [0, 1, 2, 3, 4, 9]
abbrev o_l6Key : List Nat := [1]
def c_l6Key : Con := pure' fun
  | [.p (.agg [.sl 1 x_, .int .i64 m])] => if isI x_ = true ∧ (isSh (ofI x_) m = true) then some (.p (.int .i64 (kyL (m + 2) (ofI x_))), []) else none
  | _ => none
theorem s_l6Key {P : Program} (hm : P.follows .mixedOrders = true) {Γ : Gam} (hΓ : GS P Γ) {n : FuncId} (is : Is P n a_l6Key)  : Says P n c_l6Key := by
  refine Says.pure fun args r fs h => ?_
  split at h
  case h_2 => cases h
  rename_i x_ m
  split at h
  case isFalse => cases h
  rename_i hc
  obtain ⟨hx_, hc⟩ := hc
  obtain ⟨x, rfl⟩ := isI_out hx_
  simp only [ofI_ints, ofBo_bools, ofAs_asks, Option.some.injEq, Prod.mk.injEq] at h hc
  obtain ⟨rfl, rfl⟩ := h
  have hin := (sh_in hc).1
  obtain ⟨hl1, hl5, hmm, hv⟩ := sh_out hc
  obtain ⟨b, hb⟩ : ∃ b : Nat, m + 2 = b := ⟨(m + 2).toNat, by omega⟩
  have hin : inB b x = true := by rw [hb] at hin; exact hin
  have hwb : IntKind.i64.wrap (m + 2) = (b : Int) := by rw [← hb]; exact wrap64 (by omega) (by omega)
  have hb3 : (b : Int) ≤ 3 := by omega
  rw [hb]
  refine is.go hm hΓ k_l6Key o_l6Key (by simp [a_l6Key]) ?_
  simp only [a_l6Key, List.zipIdx_cons, List.zipIdx_nil, ↓SP, SQ, Gam.add, stepM, callC, argC, lendO, nmBy, nmC, likeL, likeB, plainOb, offs, exL, X, F, trP, trO, stepD, stepW, newA, SV.tr, SV.trL, fz, allP, Ob.tr, loadA, cellsA, SV.cells, binA, binI, eqOut, isSl, isPt, natOf, callee, snap, SV.refsL, SV.refs, thaw, fzAll, loA, hiA, elemOf, partsA, buildA, putCells, ↓reduceIte, reduceCtorEq, okCell, Nat.reduceAdd, Nat.reduceEqDiff, Nat.reduceSub, Nat.reduceMul, Nat.reduceLeDiff, Nat.reduceLT, Nat.reduceBEq, PV.scal, PV.scalL, SV.scal, SV.scalL, Ob.scal, PV.isCell, pure', resO]
  refine loop_at (fun s : Nat × SV => mkEnv [(0, .p (.agg [.sl 1 (ints x), .int .i64 m])), (1, .bx 1 0), (2, si 0), (3, si (kyI b x s.1)), (4, si s.1), (9, s.2)]) (fun _ => mkO [(1, some (.box [.p (.sl 1 (ints x)), si m]))]) (fun s => s.1 ≤ x.length) (fun s => x.length - s.1) (0, .junk) (by simp) rfl rfl ?_
  rintro ⟨i, c1⟩ hi R hR hN
  simp only at hi
  by_cases h : i < x.length
  · have h1 : (i : Int) < x.length := by omega
    have hw := wrap_one (i := i) (by omega)
    have hg := ints_get h
    obtain ⟨b0, b1⟩ := ky_small (b := b) (by omega) hin hl5 (i := i) hi
    obtain ⟨v0, v1⟩ := inB_get hin h
    have bm : 0 ≤ kyI b x i * b ∧ kyI b x i * b ≤ 243 * 3 := ⟨Int.mul_nonneg b0 (by omega), Int.mul_le_mul b1 hb3 (by omega) (by omega)⟩
    have w1 : IntKind.i64.wrap (kyI b x i * b) = kyI b x i * b := wrap64 (by omega) (by omega)
    have w2 : IntKind.i64.wrap (kyI b x i * b + x.getD i 0) = kyI b x i * b + x.getD i 0 := wrap64 (by omega) (by omega)
    have w3 : IntKind.i64.wrap (kyI b x i * b + x.getD i 0 + 1) = kyI b x (i + 1) := by rw [wrap64 (by omega) (by omega)]; rfl
    simp only [h1, hw, hg, hwb, w1, w2, w3, ints_len, ↓SP, SQ, Gam.add, stepM, callC, argC, lendO, nmBy, nmC, likeL, likeB, plainOb, offs, exL, X, F, trP, trO, stepD, stepW, newA, SV.tr, SV.trL, fz, allP, Ob.tr, loadA, cellsA, SV.cells, binA, binI, eqOut, isSl, isPt, natOf, callee, snap, SV.refsL, SV.refs, thaw, fzAll, loA, hiA, elemOf, partsA, buildA, putCells, ↓reduceIte, reduceCtorEq, okCell, Nat.reduceAdd, Nat.reduceEqDiff, Nat.reduceSub, Nat.reduceMul, Nat.reduceLeDiff, Nat.reduceLT, Nat.reduceBEq, PV.scal, PV.scalL, SV.scal, SV.scalL, Ob.scal, PV.isCell, pure', resO]
    exact hN (i + 1, _) _ _ (by simp only; omega) (by simp only; omega) rfl rfl
  · have he : i = x.length := by omega
    have h1 : ¬ (i : Int) < x.length := by omega
    simp only [h1, ints_len, ↓SP, SQ, Gam.add, stepM, callC, argC, lendO, nmBy, nmC, likeL, likeB, plainOb, offs, exL, X, F, trP, trO, stepD, stepW, newA, SV.tr, SV.trL, fz, allP, Ob.tr, loadA, cellsA, SV.cells, binA, binI, eqOut, isSl, isPt, natOf, callee, snap, SV.refsL, SV.refs, thaw, fzAll, loA, hiA, elemOf, partsA, buildA, putCells, ↓reduceIte, reduceCtorEq, okCell, Nat.reduceAdd, Nat.reduceEqDiff, Nat.reduceSub, Nat.reduceMul, Nat.reduceLeDiff, Nat.reduceLT, Nat.reduceBEq, PV.scal, PV.scalL, SV.scal, SV.scalL, Ob.scal, PV.isCell, pure', resO]
    refine hR _ _ _ (by intro h; cases h) ?_
    simp only [↓SP, SQ, Gam.add, stepM, callC, argC, lendO, nmBy, nmC, likeL, likeB, plainOb, offs, exL, X, F, trP, trO, stepD, stepW, newA, SV.tr, SV.trL, fz, allP, Ob.tr, loadA, cellsA, SV.cells, binA, binI, eqOut, isSl, isPt, natOf, callee, snap, SV.refsL, SV.refs, thaw, fzAll, loA, hiA, elemOf, partsA, buildA, putCells, ↓reduceIte, reduceCtorEq, okCell, Nat.reduceAdd, Nat.reduceEqDiff, Nat.reduceSub, Nat.reduceMul, Nat.reduceLeDiff, Nat.reduceLT, Nat.reduceBEq, PV.scal, PV.scalL, SV.scal, SV.scalL, Ob.scal, PV.isCell, pure', resO]
    subst he
    exact finA_val (by simp [kyL, retA, rvA, List.mapM_cons, List.mapM_nil, Option.pure_def, Option.bind_eq_bind, Option.bind_some, Option.map_some, mkE_cons, mk_nil, mkO_cons, mkO_nil, loadA, ↓reduceIte, List.take_succ_cons, List.take_zero, List.drop_zero, List.drop_succ_cons, List.length_cons, List.length_nil, Nat.reduceAdd, Nat.reduceEqDiff, Nat.reduceLeDiff, Nat.zero_add, Nat.le_refl, reduceCtorEq, SV.tr, SV.trL, nmF, rn_nil, rn_cons1, rn_cons2, List.map_cons, List.map_nil, List.all_cons, List.all_nil, plainOb, SV.refsL, SV.refs, Ob.refs, X, F, List.range_succ, List.range_zero, List.nil_append, List.cons_append, List.isEmpty_nil, decide_true, Nat.reduceLT, Bool.and_self, Bool.and_true, and_self, and_true, List.getElem?_cons_zero, List.getElem?_cons_succ, List.nodup_cons, List.nodup_nil, List.mem_cons, List.not_mem_nil, not_false_eq_true, or_false, List.append_nil, mkO, setO_mk, List.mem_singleton]) (by simp [SV.tr, SV.trL])
theorem tmodN (a b : Nat) : ((a : Nat) : Int).tmod (b : Int) = ((a % b : Nat) : Int) := rfl
theorem tdivN (a b : Nat) : ((a : Nat) : Int).tdiv (b : Int) = ((a / b : Nat) : Int) := rfl
theorem rep_set {i : Nat} {v : Int} {suf : List Int} : (List.replicate (i + 1) (0 : Int) ++ suf).set i v = List.replicate i 0 ++ v :: suf := by
  have : List.replicate (i + 1) (0 : Int) = List.replicate i 0 ++ [0] := List.replicate_succ'
  rw [this, List.append_assoc, List.set_append_right _ _ (by simp)]
  simp
def a_l6Of (f_start : FuncId) : AFn := ⟨3, 
  .seq (.reg [⟨some 6, none, .w (.alloc [.nilsl, .int .i64 0])⟩])
  (.seq (.reg [⟨some 9, none, .d (.mv (.t 1))⟩,
    ⟨some 10, none, .d (.mv (.t 2))⟩,
    ⟨some 11, none, .w (.callL (.f f_start) [(.t 9), (.t 10)] [] 1 false)⟩,
    ⟨some 7, none, .w (.alloc [.nilsl, .int .i64 0])⟩,
    ⟨none, none, .w (.store 2 (.t 7) (.t 11))⟩])
  (.seq (.seq (.reg [⟨some 12, none, .d (.mv (.t 1))⟩,
    ⟨some 13, none, .d (.bin .arith .sub (.t 12) (.c (.int .i64 1)))⟩,
    ⟨some 8, none, .d (.mv (.t 13))⟩])
  (.block 0 (.loop (.seq (.seq (.reg [⟨some 14, none, .d (.mv (.t 8))⟩,
      ⟨some 15, none, .d (.bin .arith .geq (.t 14) (.c (.int .i64 0)))⟩])
    (.cond (.t 15) (.skip) (.exit 0)))
    (.seq (.block 1 (.seq (.dreg [] [([], ⟨some 18, none, .d (.fa 0 (.t 7))⟩),
       ([], ⟨some 19, none, .d (.load false 1 (.t 18))⟩),
       ([], ⟨some 20, none, .d (.mv (.t 8))⟩),
       ([], ⟨some 21, none, .d (.mv (.t 0))⟩),
       ([], ⟨some 22, none, .d (.mv (.t 2))⟩),
       ([], ⟨some 23, none, .d (.bin .arith .add (.t 22) (.c (.int .i64 2)))⟩),
       ([], ⟨some 24, none, .d (.bin .arith .rem (.t 21) (.t 23))⟩),
       ([], ⟨some 25, none, .d (.bin .arith .sub (.t 24) (.c (.int .i64 1)))⟩)] [⟨some 26, none, .d (.ia 1 (.t 19) (.t 20))⟩,
       ⟨none, none, .w (.store 1 (.t 26) (.t 25))⟩])
     (.reg [⟨some 27, none, .d (.mv (.t 0))⟩,
       ⟨some 28, none, .d (.mv (.t 2))⟩,
       ⟨some 29, none, .d (.bin .arith .add (.t 28) (.c (.int .i64 2)))⟩,
       ⟨some 30, none, .d (.bin .arith .quo (.t 27) (.t 29))⟩,
       ⟨some 0, none, .d (.mv (.t 30))⟩])))
    (.reg [⟨some 16, none, .d (.mv (.t 8))⟩,
      ⟨some 17, none, .d (.bin .arith .sub (.t 16) (.c (.int .i64 1)))⟩,
      ⟨some 8, none, .d (.mv (.t 17))⟩]))))))
  (.seq (.reg [⟨some 31, none, .d (.load true 2 (.t 7))⟩,
    ⟨none, none, .w (.store 2 (.t 6) (.t 31))⟩])
  (.ret)))), [.cell 6 2 true]⟩
def n_l6Of : Nat → Option Ann := fun d => if d = 11 then some ⟨[], 1, false⟩ else none
abbrev k_l6Of : List Nat := [0, 1, 2, 6, 7, 8, 15]
abbrev o_l6Of : List Nat := [6, 7, 11]
def c_l6Of : Con := pure' fun
  | [.p (.int .i64 key), .p (.int .i64 n), .p (.int .i64 m)] => if (0 ≤ key ∧ key ≤ 1000000 ∧ 1 ≤ n ∧ n ≤ 5 ∧ 0 ≤ m ∧ m ≤ 1) then some (.ag [.ar 2000000, .p (.int .i64 m)], [.arr 1 (ints (dgB (m + 2).toNat n.toNat key.toNat))]) else none
  | _ => none
theorem s_l6Of {P : Program} (hm : P.follows .mixedOrders = true) {Γ : Gam} (hΓ : GS P Γ) {n : FuncId} {f_start : FuncId} (is : Is P n (a_l6Of f_start)) (h_start : Γ f_start = c_start)  : Says P n c_l6Of := by
  refine Says.pure fun args r fs h => ?_
  split at h
  case h_2 => cases h
  rename_i key n m
  split at h
  case isFalse => cases h
  rename_i hc
  simp only [ofI_ints, ofBo_bools, ofAs_asks, Option.some.injEq, Prod.mk.injEq] at h hc
  obtain ⟨rfl, rfl⟩ := h
  obtain ⟨hk0, hk1, hn1, hn5, hm0, hm1⟩ := hc
  obtain ⟨key, rfl⟩ : ∃ j : Nat, key = j := ⟨key.toNat, by omega⟩
  obtain ⟨n, rfl⟩ : ∃ j : Nat, n = j := ⟨n.toNat, by omega⟩
  obtain ⟨b, hb⟩ : ∃ b : Nat, m + 2 = b := ⟨(m + 2).toNat, by omega⟩
  have hwb : IntKind.i64.wrap (m + 2) = (b : Int) := by rw [← hb]; exact wrap64 (by omega) (by omega)
  have hbz : ¬ (b : Int) = 0 := by omega
  rw [hb]
  simp only [Int.toNat_natCast]
  have hn00 : (0 : Int) ≤ (n : Int) := by omega
  have hnb : (n : Int) ≤ 1100000 := by omega
  have hw0 : IntKind.i64.wrap ((n : Int) - 1) = (n : Int) - 1 := wrap64 (by omega) (by omega)
  refine is.go hm hΓ k_l6Of o_l6Of (by simp [a_l6Of]) ?_
  simp only [a_l6Of, h_start, c_start, hn00, hnb, hw0, Int.toNat_natCast, List.zipIdx_cons, List.zipIdx_nil, ↓SP, SQ, Gam.add, stepM, callC, argC, lendO, nmBy, nmC, likeL, likeB, plainOb, offs, exL, X, F, trP, trO, stepD, stepW, newA, SV.tr, SV.trL, fz, allP, Ob.tr, loadA, cellsA, SV.cells, binA, binI, eqOut, isSl, isPt, natOf, callee, snap, SV.refsL, SV.refs, thaw, fzAll, loA, hiA, elemOf, partsA, buildA, putCells, ↓reduceIte, reduceCtorEq, okCell, Nat.reduceAdd, Nat.reduceEqDiff, Nat.reduceSub, Nat.reduceMul, Nat.reduceLeDiff, Nat.reduceLT, Nat.reduceBEq, PV.scal, PV.scalL, SV.scal, SV.scalL, Ob.scal, PV.isCell, pure', resO]
  refine loop_at (fun s : Nat × Nat × List Int × SV => mkEnv [(0, si s.2.1), (1, si n), (2, si m), (6, .bx 6 0), (7, .bx 7 0), (8, si ((s.1 : Int) - 1)), (15, s.2.2.2)]) (fun s => mkO [(6, some (.box [.p .nilsl, si 0])), (7, some (.box [.ar 11, si m])), (11, some (.arr 1 (ints (List.replicate s.1 0 ++ s.2.2.1))))]) (fun s => s.1 ≤ n ∧ s.2.1 ≤ 1000000 ∧ s.2.2.1.length = n - s.1 ∧ dgB b s.1 s.2.1 ++ s.2.2.1 = dgB b n key) (fun s => s.1) (n, key, [], .junk) (by simp; omega) rfl (by simp only [List.append_nil]) ?_
  rintro ⟨i, q, suf, c1⟩ ⟨hi, hq, hsl, hd⟩ R hR hN
  simp only at hi hq hsl hd
  cases i with
  | succ i =>
    have e1 : ((i + 1 : Nat) : Int) - 1 = (i : Int) := by omega
    have hw : IntKind.i64.wrap ((i : Int) - 1) = (i : Int) - 1 := wrap64 (by omega) (by omega)
    have h1 : (i : Int) ≥ 0 := by omega
    have h1' : (0 : Int) ≤ (i : Int) := h1
    have hlt := Nat.mod_lt q (show 0 < b by omega)
    have hdv := Nat.div_le_self q b
    have hw1 : IntKind.i64.wrap (((q % b : Nat) : Int) - 1) = ((q % b : Nat) : Int) - 1 := wrap64 (by omega) (by omega)
    have hw2 : IntKind.i64.wrap ((q % b : Nat) : Int) = ((q % b : Nat) : Int) := wrap64 (by omega) (by omega)
    have hw3 : IntKind.i64.wrap ((q / b : Nat) : Int) = ((q / b : Nat) : Int) := by
      generalize q / b = z at hdv ⊢
      exact wrap64 (by omega) (by omega)
    have hdq : q / b ≤ 1000000 := Nat.le_trans hdv hq
    have hlen : (List.replicate (i + 1) (0 : Int) ++ suf).length = n := by simp [hsl]; omega
    have hin : i < n := by omega
    have hset := rep_set (i := i) (v := ((q % b : Nat) : Int) - 1) (suf := suf)
    obtain ⟨e, he⟩ : ∃ e, (ints (List.replicate (i + 1) (0 : Int) ++ suf))[i]? = some e := ⟨_, List.getElem?_eq_getElem (by rw [ints_len, hlen]; exact hin)⟩
    simp only [e1, h1, h1', hw, hwb, hbz, hw1, hw2, hw3, hlen, hin, he, hset, tmodN, tdivN, ints_len, ints_set, Int.toNat_natCast, ↓SP, SQ, Gam.add, stepM, callC, argC, lendO, nmBy, nmC, likeL, likeB, plainOb, offs, exL, X, F, trP, trO, stepD, stepW, newA, SV.tr, SV.trL, fz, allP, Ob.tr, loadA, cellsA, SV.cells, binA, binI, eqOut, isSl, isPt, natOf, callee, snap, SV.refsL, SV.refs, thaw, fzAll, loA, hiA, elemOf, partsA, buildA, putCells, ↓reduceIte, reduceCtorEq, okCell, Nat.reduceAdd, Nat.reduceEqDiff, Nat.reduceSub, Nat.reduceMul, Nat.reduceLeDiff, Nat.reduceLT, Nat.reduceBEq, PV.scal, PV.scalL, SV.scal, SV.scalL, Ob.scal, PV.isCell, pure', resO]
    exact hN (i, q / b, _ :: suf, _) _ _ (by simp only; refine ⟨by omega, hdq, by simp [hsl]; omega, ?_⟩; rw [← hd, dgB]; simp) (by simp only; omega) rfl rfl
  | zero =>
    have e1 : ((0 : Nat) : Int) - 1 = -1 := by omega
    have h1 : ¬ (-1 : Int) ≥ 0 := by omega
    have hfe : suf = dgB b n key := by rw [← hd]; simp [dgB]
    simp only [e1, h1, ↓SP, SQ, Gam.add, stepM, callC, argC, lendO, nmBy, nmC, likeL, likeB, plainOb, offs, exL, X, F, trP, trO, stepD, stepW, newA, SV.tr, SV.trL, fz, allP, Ob.tr, loadA, cellsA, SV.cells, binA, binI, eqOut, isSl, isPt, natOf, callee, snap, SV.refsL, SV.refs, thaw, fzAll, loA, hiA, elemOf, partsA, buildA, putCells, ↓reduceIte, reduceCtorEq, okCell, Nat.reduceAdd, Nat.reduceEqDiff, Nat.reduceSub, Nat.reduceMul, Nat.reduceLeDiff, Nat.reduceLT, Nat.reduceBEq, PV.scal, PV.scalL, SV.scal, SV.scalL, Ob.scal, PV.isCell, pure', resO]
    refine hR _ _ _ (by intro h; cases h) ?_
    simp only [↓SP, SQ, Gam.add, stepM, callC, argC, lendO, nmBy, nmC, likeL, likeB, plainOb, offs, exL, X, F, trP, trO, stepD, stepW, newA, SV.tr, SV.trL, fz, allP, Ob.tr, loadA, cellsA, SV.cells, binA, binI, eqOut, isSl, isPt, natOf, callee, snap, SV.refsL, SV.refs, thaw, fzAll, loA, hiA, elemOf, partsA, buildA, putCells, ↓reduceIte, reduceCtorEq, okCell, Nat.reduceAdd, Nat.reduceEqDiff, Nat.reduceSub, Nat.reduceMul, Nat.reduceLeDiff, Nat.reduceLT, Nat.reduceBEq, PV.scal, PV.scalL, SV.scal, SV.scalL, Ob.scal, PV.isCell, pure', resO]
    refine finA_gen [11] trivial (by simp [retA, rvA, List.mapM_cons, List.mapM_nil, Option.pure_def, Option.bind_eq_bind, Option.bind_some, Option.map_some, mkE_cons, mk_nil, mkO_cons, mkO_nil, loadA, ↓reduceIte, List.take_succ_cons, List.take_zero, List.drop_zero, List.drop_succ_cons, List.length_cons, List.length_nil, Nat.reduceAdd, Nat.reduceEqDiff, Nat.reduceLeDiff, Nat.zero_add, Nat.le_refl, reduceCtorEq, SV.tr, SV.trL, nmF, rn_nil, rn_cons1, rn_cons2, List.map_cons, List.map_nil, List.all_cons, List.all_nil, plainOb, SV.refsL, SV.refs, Ob.refs, X, F, List.range_succ, List.range_zero, List.nil_append, List.cons_append, List.isEmpty_nil, decide_true, Nat.reduceLT, Bool.and_self, Bool.and_true, and_self, and_true, List.getElem?_cons_zero, List.getElem?_cons_succ, List.nodup_cons, List.nodup_nil, List.mem_cons, List.not_mem_nil, not_false_eq_true, or_false, List.append_nil, mkO, setO_mk, List.mem_singleton]; rfl) ?_ ?_ ?_ ?_ ?_ ?_ ?_ <;> simp [hfe, retA, rvA, List.mapM_cons, List.mapM_nil, Option.pure_def, Option.bind_eq_bind, Option.bind_some, Option.map_some, mkE_cons, mk_nil, mkO_cons, mkO_nil, loadA, ↓reduceIte, List.take_succ_cons, List.take_zero, List.drop_zero, List.drop_succ_cons, List.length_cons, List.length_nil, Nat.reduceAdd, Nat.reduceEqDiff, Nat.reduceLeDiff, Nat.zero_add, Nat.le_refl, reduceCtorEq, SV.tr, SV.trL, nmF, rn_nil, rn_cons1, rn_cons2, List.map_cons, List.map_nil, List.all_cons, List.all_nil, plainOb, SV.refsL, SV.refs, Ob.refs, X, F, List.range_succ, List.range_zero, List.nil_append, List.cons_append, List.isEmpty_nil, decide_true, Nat.reduceLT, Bool.and_self, Bool.and_true, and_self, and_true, List.getElem?_cons_zero, List.getElem?_cons_succ, List.nodup_cons, List.nodup_nil, List.mem_cons, List.not_mem_nil, not_false_eq_true, or_false, List.append_nil, mkO, setO_mk, List.mem_singleton]
def a_l6After (f_l2After : FuncId) : AFn := ⟨3, 
  .seq (.reg [⟨some 3, none, .w (.box 2 (.t 0))⟩,
    ⟨some 6, none, .w (.alloc [.nilsl, .int .i64 0])⟩])
  (.seq (.dreg [] [([], ⟨some 7, none, .d (.load true 2 (.t 3))⟩),
    ([], ⟨some 8, none, .d (.mv (.t 1))⟩),
    ([], ⟨some 9, none, .d (.bin .arith .shl (.c (.int .i64 1)) (.t 8))⟩),
    ([], ⟨some 10, none, .d (.bin .arith .sub (.t 9) (.c (.int .i64 1)))⟩),
    ([], ⟨some 11, none, .d (.mv (.t 2))⟩)] [⟨some 12, none, .d (.call (.f f_l2After) [(.t 7), (.t 10), (.t 11)])⟩,
    ⟨none, none, .w (.store 2 (.t 6) (.t 12))⟩])
  (.ret)), [.cell 6 2 true]⟩
def n_l6After : Nat → Option Ann := fun _ => none
abbrev k_l6After : List Nat := [0, 1, 2, 3, 6]
abbrev o_l6After : List Nat := [3, 6]
def c_l6After : Con := pure' fun
  | [.p (.agg [.sl 1 x_, .int .i64 m]), .p (.int .i64 k), .p (.bool y)] => if isI x_ = true ∧ (isSh (ofI x_) m = true ∧ 0 ≤ k ∧ k ≤ 5) then some (.ag [.p (.sl 1 (ints (aftL m k.toNat y (ofI x_)))), .p (.int .i64 m)], []) else none
  | _ => none
theorem s_l6After {P : Program} (hm : P.follows .mixedOrders = true) {Γ : Gam} (hΓ : GS P Γ) {n : FuncId} {f_l2After : FuncId} (is : Is P n (a_l6After f_l2After)) (h_l2After : Γ f_l2After = c_l2After)  : Says P n c_l6After := by
  refine Says.pure fun args r fs h => ?_
  split at h
  case h_2 => cases h
  rename_i x_ m k y
  split at h
  case isFalse => cases h
  rename_i hc
  obtain ⟨hx_, hc⟩ := hc
  obtain ⟨x, rfl⟩ := isI_out hx_
  simp only [ofI_ints, ofBo_bools, ofAs_asks, Option.some.injEq, Prod.mk.injEq] at h hc
  obtain ⟨rfl, rfl⟩ := h
  obtain ⟨hs, h0, h1⟩ := hc
  obtain ⟨k, rfl⟩ : ∃ j : Nat, k = j := ⟨k.toNat, by omega⟩
  obtain ⟨s1, s2⟩ := shl5 (k := k) (by omega)
  have hn : ¬ (k : Int) < 0 := by omega
  have hsm := sh_1000 hs
  have hll := sh_len hs
  have hal := aft_ls (k := k) (by omega) (m := m) (y := y) (sh_out hs).2.1
  simp only [Int.toNat_natCast]
  refine is.go hm hΓ k_l6After o_l6After (by simp [a_l6After]) ?_
  simp only [a_l6After, h_l2After, c_l2After, s1, s2, hn, hsm, hll, hal, Int.toNat_natCast, List.zipIdx_cons, List.zipIdx_nil, ↓SP, SQ, Gam.add, stepM, callC, argC, lendO, nmBy, nmC, likeL, likeB, plainOb, offs, exL, X, F, trP, trO, stepD, stepW, newA, SV.tr, SV.trL, fz, allP, Ob.tr, loadA, cellsA, SV.cells, binA, binI, eqOut, isSl, isPt, natOf, callee, snap, SV.refsL, SV.refs, thaw, fzAll, loA, hiA, elemOf, partsA, buildA, putCells, ↓reduceIte, reduceCtorEq, okCell, Nat.reduceAdd, Nat.reduceEqDiff, Nat.reduceSub, Nat.reduceMul, Nat.reduceLeDiff, Nat.reduceLT, Nat.reduceBEq, PV.scal, PV.scalL, SV.scal, SV.scalL, Ob.scal, PV.isCell, pure', resO]
  exact finA_val (by simp [retA, rvA, List.mapM_cons, List.mapM_nil, Option.pure_def, Option.bind_eq_bind, Option.bind_some, Option.map_some, mkE_cons, mk_nil, mkO_cons, mkO_nil, loadA, ↓reduceIte, List.take_succ_cons, List.take_zero, List.drop_zero, List.drop_succ_cons, List.length_cons, List.length_nil, Nat.reduceAdd, Nat.reduceEqDiff, Nat.reduceLeDiff, Nat.zero_add, Nat.le_refl, reduceCtorEq, SV.tr, SV.trL, nmF, rn_nil, rn_cons1, rn_cons2, List.map_cons, List.map_nil, List.all_cons, List.all_nil, plainOb, SV.refsL, SV.refs, Ob.refs, X, F, List.range_succ, List.range_zero, List.nil_append, List.cons_append, List.isEmpty_nil, decide_true, Nat.reduceLT, Bool.and_self, Bool.and_true, and_self, and_true, List.getElem?_cons_zero, List.getElem?_cons_succ, List.nodup_cons, List.nodup_nil, List.mem_cons, List.not_mem_nil, not_false_eq_true, or_false, List.append_nil, mkO, setO_mk, List.mem_singleton]) (by simp [SV.tr, SV.trL])
end Go.Proofs.Ytgnclbdhpdjafaa.Pam
