/- A part of the proof that stands in this folder: a small machine whose steps are shown to be the steps of the model, or walks of functions by it. No condition of its own. -/
import Derived.Test.YtpobnchalcokoaaDoorPamC
import Derived.WideKeyRuns
set_option linter.unusedVariables false
set_option linter.unusedSimpArgs false
namespace Go.Proofs.YtpobnchalcokoaaDoor.Pam
open Go

section
variable {P : Program} {w w' w1 : World} {S S' S2 : Nat → Prop} {β β' : Nat → Nat} {O O' : Objs} {σ σ' : Env} {a : Act} {o : Oper} {v : SV} {ann : Nat → Option Ann} {Γ : Gam}

theorem allP_rel {cs : List SV} {vs : List PV} (h : allP cs = some vs) : cs = vs.map .p := by
  induction cs generalizing vs with
  | nil => simp [allP] at h; subst h; rfl
  | cons c cs ih =>
    cases c <;> simp only [allP] at h <;> first | (cases h; done) | skip
    cases h1 : allP cs with
    | none => simp [h1] at h
    | some r => simp [h1] at h; subst h; simp [ih h1]
theorem elemOf_rel {sz : Nat} {sv : SV} {x : Value} {v : PV} (h : SR w S β O sv x) (he : elemOf sz sv = some v) : PR w S v x ∧ v.cells.length = sz := by
  cases sv <;> simp only [elemOf] at he <;> first | (cases he; done) | skip
  · split at he
    · rename_i hs; injection he with he; subst he; exact ⟨h.p_inv, hs⟩
    · cases he
  · rename_i cs
    cases ha : allP cs with
    | none => simp [ha] at he
    | some vs =>
      simp only [ha] at he
      split at he
      · rename_i hs; injection he with he; subst he
        have := allP_rel ha; subst this
        obtain ⟨xs, e, hn, hc⟩ := h.ag_inv
        subst e
        exact ⟨.agg vs xs (by simpa using hn) fun i hi => by have := hc i (by simpa using hi); simpa using (by simpa using this : SR w S β O (.p vs[i]) _).p_inv, hs⟩
      · cases he

/-- Values of an array of ints. -/
def IntsV (cs : List PV) (vs : Array Value) : Prop := vs.size = cs.length ∧ ∀ i (hi : i < cs.length), ∃ k n, cs[i] = .int k n ∧ vs[i]? = some (.int k n)

theorem intsV_of {cs : List PV} {x : Value} (h : PR w S (.agg cs) x) (hc : cs.all PV.isInt = true) : ∃ vs, x = .agg vs ∧ IntsV cs vs := by
  cases h with
  | agg _ vs hn h =>
    refine ⟨vs, rfl, hn, fun i hi => ?_⟩
    have h1 := h i hi
    have h2 := List.all_eq_true.1 hc _ (List.getElem_mem hi)
    generalize cs[i] = c at h1 h2
    cases c <;> simp [PV.isInt] at h2
    rename_i k n
    refine ⟨k, n, rfl, ?_⟩
    generalize hq : vs.getD i undef = q at h1
    cases h1
    have hlt : i < vs.size := by omega
    rw [Array.getElem?_eq_getElem hlt]
    simpa [Array.getD, hlt] using hq

theorem plainKey_int {e : TypeId} {q : IntKind} (he : P.underlying e = some (.int q)) : P.plainKey e = true := by simp [Program.plainKey, he]
theorem cellsOf_one {e : TypeId} (h : tySz P e = some 1) : P.cellsOf e = 1 ∧ ∃ i, P.info? e = some i := by
  unfold tySz at h
  cases hi : P.info? e with
  | none => simp [hi] at h
  | some i => simp [hi] at h; exact ⟨by simp [Program.cellsOf, hi, h], i, rfl⟩

theorem run_eqItems_ints (d : Nat) {e : TypeId} {q : IntKind} (he : P.underlying e = some (.int q)) {cs cs' : List PV} {xs ys : Array Value} (hx : IntsV cs xs) (hy : IntsV cs' ys) : ∀ (m j : Nat), j + m = cs.length → cs'.length = cs.length → ∀ {r : Bool},
    scalEqL (cs.drop j) (cs'.drop j) = some r → (Op.eqItems (d + 1) e 1 xs ys (List.range' j m)).run P w = .ok r w
  | 0, j, hj, hl, r, hr => by
    rw [List.drop_of_length_le (by omega), List.drop_of_length_le (by omega)] at hr
    simp only [scalEqL, Option.some.injEq] at hr
    subst hr
    simp [Op.eqItems]
  | m + 1, j, hj, hl, r, hr => by
    have h1 : j < cs.length := by omega
    have h2 : j < cs'.length := by omega
    rw [List.drop_eq_getElem_cons h1, List.drop_eq_getElem_cons h2] at hr
    obtain ⟨k, n, e1, e2⟩ := hx.2 j h1
    obtain ⟨k', n', e3, e4⟩ := hy.2 j h2
    rw [e1, e3] at hr
    simp only [scalEqL, scalEq] at hr
    simp only [List.range'_succ, Op.eqItems, Nat.mul_one, Sem.run_bind, run_part_plain w (plainKey_int he) e2, run_part_plain w (plainKey_int he) e4, Result.andThen_ok]
    by_cases hk : k = k'
    · subst hk
      simp only [if_true] at hr
      have hq : (Op.equalIn (d + 1) e (.int k n) (.int k n')).run P w = .ok (n == n') w := by simp [Op.equalIn, run_underlying he]
      rw [hq]
      simp only [Result.andThen_ok]
      cases hb : (n == n') with
      | true =>
        rw [hb] at hr
        simp only at hr
        simpa using run_eqItems_ints d he hx hy m (j + 1) (by omega) hl hr
      | false =>
        rw [hb] at hr
        simp only [Option.some.injEq] at hr
        subst hr
        simp
    · simp [hk] at hr

theorem run_equal_arr (d : Nat) {t e : TypeId} {n : Nat} {q : IntKind} {cs cs' : List PV} {xs ys : Array Value} {r : Bool} (hu : P.underlying t = some (.array n e)) (he : P.underlying e = some (.int q)) (h1 : tySz P e = some 1) (hx : IntsV cs xs) (hy : IntsV cs' ys) (hn : cs.length = n)
    (hn' : cs'.length = n) (hr : scalEqL cs cs' = some r) : (Op.equalIn (d + 2) t (.agg xs) (.agg ys)).run P w = .ok r w := by
  obtain ⟨hc, i, hi⟩ := cellsOf_one h1
  rw [run_equalIn_array w (d + 1) xs ys hu hi, hc, List.range_eq_range']
  exact run_eqItems_ints d he hx hy n 0 (by omega) (by omega) hr

theorem run_checkKey_arr (em : Bool) (d : Nat) {t e : TypeId} {n : Nat} {q : IntKind} {cs : List PV} {xs : Array Value} (hu : P.underlying t = some (.array n e)) (he : P.underlying e = some (.int q)) (h1 : tySz P e = some 1) (hx : IntsV cs xs) (hn : cs.length = n) :
    (Instr.checkKey em (d + 2) t (.agg xs)).run P w = .ok () w := by
  obtain ⟨hc, i, hi⟩ := cellsOf_one h1
  simp only [Instr.checkKey, Sem.run_bind, run_underlying hu, Result.andThen_ok]
  simp only [Std.Legacy.Range.forIn_eq_forIn_range', Std.Legacy.Range.size, Nat.sub_zero, Nat.add_one_sub_one, Nat.div_one]
  have main : ∀ (m j : Nat), j + m = cs.length → ∀ (f : Nat → PUnit → Sem (ForInStep PUnit)), (∀ j, j < cs.length → (f j ⟨⟩).run P w = .ok (.yield ⟨⟩) w) → (forIn (List.range' j m) PUnit.unit f).run P w = .ok PUnit.unit w := by
    intro m
    induction m with
    | zero => intro j hj f hf; simp
    | succ m ih =>
      intro j hj f hf
      simp only [List.range'_succ, List.forIn_cons, Sem.run_bind, hf j (by omega), Result.andThen_ok]
      exact ih (j + 1) (by omega) f hf
  refine (congrArg (fun r => Result.andThen r _) (main n 0 (by omega) _ fun j hj => ?_)).trans (by simp)
  obtain ⟨k, z, _, e2⟩ := hx.2 j hj
  simp only [Sem.run_bind, run_sizeOf w hi, Result.andThen_ok, hc, Nat.mul_one, run_part_plain w (plainKey_int he) e2, run_underlying he]
  simp

theorem run_checkKey_int (em : Bool) (d : Nat) {t : TypeId} {q : IntKind} {k : IntKind} {n : Int} (hu : P.underlying t = some (.int q)) : (Instr.checkKey em (d + 1) t (.int k n)).run P w = .ok () w := by
  simp [Instr.checkKey, run_underlying hu]

/-- The place of a key, as the model finds it. -/
def lookAt (k : PV) : List (PV × PV) → Nat → Option (Option (Nat × PV))
  | [], _ => some none
  | (k', v) :: r, i => match keyEq k k' with
    | some true => some (some (i, v))
    | some false => lookAt k r (i + 1)
    | none => none
theorem lookAt_look (k : PV) : ∀ (es : List (PV × PV)) (i : Nat), look k es = (lookAt k es i).map fun p => p.map (·.2)
  | [], _ => rfl
  | (k', v) :: r, i => by
    simp only [look, lookAt]
    cases keyEq k k' with
    | none => rfl
    | some b => cases b with
      | true => rfl
      | false => exact lookAt_look k r (i + 1)
theorem lookAt_idx {k : PV} : ∀ {es : List (PV × PV)} {i j : Nat} {v : PV}, lookAt k es i = some (some (j, v)) → i ≤ j ∧ ∃ hj : j - i < es.length, es[j - i].2 = v
  | [], _, _, _, h => by simp [lookAt] at h
  | (k', v') :: r, i, j, v, h => by
    simp only [lookAt] at h
    split at h
    · injection h with h; injection h with h; injection h with h1 h2
      subst h1; subst h2
      exact ⟨Nat.le_refl _, by simp, by simp⟩
    · obtain ⟨h1, h2, h3⟩ := lookAt_idx h
      have e : j - i = (j - (i + 1)) + 1 := by omega
      refine ⟨by omega, by simp; omega, ?_⟩
      simp only [e, List.getElem_cons_succ]
      exact h3
    · cases h

/-- Keys of ints. -/
theorem findNow_ints {q : IntKind} {k : IntKind} {n : Int} : ∀ {es : List (PV × PV)} {l : List MapEntry} {i : Nat} {r : Option (Nat × PV)}, l.length = es.length → (∀ j (hj : j < es.length), PR w S es[j].1 (l[j]?.getD default).key) →
    lookAt (.int k n) es i = some r → ∃ z, Instr.findNow (.int q) (.int k n) l i = some z ∧ (r = none → z = none) ∧ ∀ j v, r = some (j, v) → z = some (j, (l[j - i]?.getD default).val)
  | [], [], i, r, _, _, h => by
    simp only [lookAt, Option.some.injEq] at h
    subst h
    exact ⟨none, rfl, fun _ => rfl, fun _ _ e => by cases e⟩
  | (k', v') :: es, x :: l, i, r, hl, hk, h => by
    have hx := hk 0 (by simp)
    simp only [List.getElem_cons_zero, List.getElem?_cons_zero, Option.getD_some] at hx
    simp only [lookAt] at h
    have hkey : ∃ k1 n1, k' = .int k1 n1 := by
      cases k' <;> simp [keyEq, scalEq] at h
      exact ⟨_, _, rfl⟩
    obtain ⟨k1, n1, rfl⟩ := hkey
    simp only [keyEq, scalEq] at h
    generalize hq : x.key = xk at hx
    cases hx
    by_cases hkk : k = k1
    · subst hkk
      simp only [if_true] at h
      cases hb : (n == n1) with
      | true =>
        rw [hb] at h
        simp only [Option.some.injEq] at h
        subst h
        refine ⟨some (i, x.val), by simp [Instr.findNow, hq, Instr.sameNow, hb], fun e => (by cases e), fun j v e => ?_⟩
        injection e with e; injection e with e1 e2
        subst e1
        simp
      | false =>
        rw [hb] at h
        simp only at h
        obtain ⟨z, h1, h2, h3⟩ := findNow_ints (q := q) (l := l) (by simpa using hl) (fun j hj => by have := hk (j + 1) (by simp; omega); simpa using this) h
        refine ⟨z, by simp [Instr.findNow, hq, Instr.sameNow, hb, h1], h2, fun j v e => ?_⟩
        have hij := (lookAt_idx (e ▸ h)).1
        rw [h3 j v e]
        have e5 : j - i = (j - (i + 1)) + 1 := by omega
        rw [e5]; simp
    · simp [hkk] at h
  | [], _ :: _, _, _, hl, _, _ => by simp at hl
  | _ :: _, [], _, _, hl, _, _ => by simp at hl

/-- Keys of arrays of ints. -/
theorem findAsking_arr {t e : TypeId} {n : Nat} {q : IntKind} (hu : P.underlying t = some (.array n e)) (he : P.underlying e = some (.int q)) (h1 : tySz P e = some 1) {cs : List PV} {xs : Array Value} (hx : IntsV cs xs) (hn : cs.length = n) :
    ∀ {es : List (PV × PV)} {l : List MapEntry} {i : Nat} {r : Option (Nat × PV)}, l.length = es.length → (∀ j (hj : j < es.length), PR w S es[j].1 (l[j]?.getD default).key) → (∀ p ∈ es, aggN n p.1 = true) →
    lookAt (.agg cs) es i = some r → ∃ z, (Instr.findAsking t (.agg xs) l i).run P w = .ok z w ∧ (r = none → z = none) ∧ ∀ j v, r = some (j, v) → z = some (j, (l[j - i]?.getD default).val)
  | [], [], i, r, _, _, _, h => by
    simp only [lookAt, Option.some.injEq] at h
    subst h
    exact ⟨none, by simp [Instr.findAsking], fun _ => rfl, fun _ _ e => by cases e⟩
  | (k', v') :: es, x :: l, i, r, hl, hk, hag, h => by
    have hx0 := hk 0 (by simp)
    simp only [List.getElem_cons_zero, List.getElem?_cons_zero, Option.getD_some] at hx0
    simp only [lookAt] at h
    have ha := hag _ (List.mem_cons_self)
    obtain ⟨cs', rfl⟩ : ∃ cs', k' = .agg cs' := by cases k' <;> simp [aggN] at ha; exact ⟨_, rfl⟩
    simp only [aggN, Bool.and_eq_true, beq_iff_eq] at ha
    obtain ⟨ys, hy, hyi⟩ := intsV_of hx0 ha.2
    simp only [keyEq] at h
    cases hb : scalEqL cs cs' with
    | none => simp [hb] at h
    | some b =>
      have heq : (Op.equal t (.agg xs) x.key).run P w = .ok b w := by
        rw [hy]
        exact run_equal_arr 9998 hu he h1 hx hyi hn ha.1 hb
      rw [hb] at h
      cases b with
      | true =>
        simp only [Option.some.injEq] at h
        subst h
        refine ⟨some (i, x.val), by simp [Instr.findAsking, heq], fun e => (by cases e), fun j v e => ?_⟩
        injection e with e; injection e with e1 e2
        subst e1
        simp
      | false =>
        simp only at h
        obtain ⟨z, g1, g2, g3⟩ := findAsking_arr hu he h1 hx hn (l := l) (by simpa using hl) (fun j hj => by have := hk (j + 1) (by simp; omega); simpa using this) (fun p hp => hag p (by simp [hp])) h
        refine ⟨z, by simp [Instr.findAsking, heq, g1], g2, fun j v e => ?_⟩
        have hij := (lookAt_idx (e ▸ h)).1
        rw [g3 j v e]
        have e5 : j - i = (j - (i + 1)) + 1 := by omega
        rw [e5]; simp
  | [], _ :: _, _, _, hl, _, _, _ => by simp at hl
  | _ :: _, [], _, _, hl, _, _, _ => by simp at hl

theorem keyTy_inv {kt : TypeId} {kn : Option Nat} (h : keyTy P kt = some kn) : (kn = none ∧ ∃ q, P.underlying kt = some (.int q)) ∨ ∃ n e q, kn = some n ∧ P.underlying kt = some (.array n e) ∧ P.underlying e = some (.int q) ∧ tySz P e = some 1 := by
  unfold keyTy at h
  split at h
  · rename_i q hu; injection h with h; exact .inl ⟨h.symm, q, hu⟩
  · rename_i n e hu
    split at h
    · rename_i q he
      split at h
      · rename_i h1; injection h with h; exact .inr ⟨n, e, q, h.symm, hu, he, h1⟩
      · cases h
    · cases h
  · cases h

theorem keyA_val {kn : Option Nat} {sv : SV} {x : Value} {k : PV} (h : SR w S β O sv x) (hk : keyA kn sv = some k) : PR w S k x ∧ (kn = none → ∃ kd n, k = .int kd n ∧ x = .int kd n) ∧ ∀ n, kn = some n → ∃ cs vs, k = .agg cs ∧ x = .agg vs ∧ IntsV cs vs ∧ cs.length = n ∧ cs.all PV.isInt = true := by
  cases kn with
  | none =>
    simp only [keyA] at hk
    split at hk
    · rename_i kd n
      injection hk with hk
      subst hk
      have := h.int_inv
      subst this
      exact ⟨.int _ _, fun _ => ⟨_, _, rfl, rfl⟩, fun n e => by cases e⟩
    · cases hk
  | some n =>
    simp only [keyA] at hk
    split at hk
    · rename_i cs he
      split at hk
      · rename_i hc
        injection hk with hk
        subst hk
        obtain ⟨h1, h2⟩ := elemOf_rel h he
        obtain ⟨vs, rfl, hv⟩ := intsV_of h1 hc
        refine ⟨h1, fun e => (by cases e), fun n' e => ?_⟩
        injection e with e; subst e
        exact ⟨cs, vs, rfl, rfl, hv, by simpa [PV.cells] using h2, hc⟩
      · cases hk
    · cases hk

/-- What the model finds behind a key. -/
theorem find_key {kt : TypeId} {kn : Option Nat} (hkt : keyTy P kt = some kn) {sv : SV} {x : Value} {k : PV} (h : SR w S β O sv x) (hk : keyA kn sv = some k) {es : List (PV × PV)} {l : List MapEntry} {r : Option (Nat × PV)} (hl : l.length = es.length)
    (hks : ∀ j (hj : j < es.length), PR w S es[j].1 (l[j]?.getD default).key) (hok : keysOk kn es = true) (hr : lookAt k es 0 = some r) :
    (∀ em, (Instr.checkKey em 10000 kt x).run P w = .ok () w) ∧ ∃ z, (Instr.findKey kt x l).run P w = .ok z w ∧ (r = none → z = none) ∧ ∀ j v, r = some (j, v) → z = some (j, (l[j]?.getD default).val) := by
  obtain ⟨_, hi, ha⟩ := keyA_val h hk
  rcases keyTy_inv hkt with ⟨rfl, q, hu⟩ | ⟨n, e, q, rfl, hu, he, h1⟩
  · obtain ⟨kd, n, rfl, rfl⟩ := hi rfl
    obtain ⟨z, g1, g2, g3⟩ := findNow_ints (q := q) hl hks hr
    exact ⟨fun em => run_checkKey_int em 9999 hu, z, by simp [Instr.findKey, run_underlying hu, g1], g2, g3⟩
  · obtain ⟨cs, vs, rfl, rfl, hv, hn, _⟩ := ha n rfl
    refine ⟨fun em => run_checkKey_arr em 9998 hu he h1 hv hn, ?_⟩
    obtain ⟨z, g1, g2, g3⟩ := findAsking_arr hu he h1 hv hn hl hks (fun p hp => List.all_eq_true.1 hok p hp) hr
    exact ⟨z, by rw [run_findKey_eq w (by rw [hu])]; exact g1, g2, g3⟩

end
end Go.Proofs.YtpobnchalcokoaaDoor.Pam
