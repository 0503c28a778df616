/- A part of the proof that stands in this folder: a small machine whose steps are shown to be the steps of the model, or walks of functions by it. No condition of its own. -/
import Derived.Test.YtpobnchalcokoaaDoorPamG1
set_option linter.unusedVariables false
set_option linter.unusedSimpArgs false
namespace Go.Proofs.YtpobnchalcokoaaDoor.Pam
open Go
section
variable {P : Program} {w : World} {S : Nat → Prop} {β : Nat → Nat} {O : Objs} {σ : Env} {a : Act} {o : Oper} {v : SV} {ann : Nat → Option Ann} {Γ : Gam}

theorem odsOf_cons {x : Operand} {r : List Operand} {l : List Od} (h : odsOf (x :: r) = some l) : ∃ y l', odOf x = some y ∧ odsOf r = some l' ∧ l = y :: l' := by
  simp only [odsOf] at h
  cases h1 : odOf x with
  | none => simp [h1] at h
  | some y => cases h2 : odsOf r with
    | none => simp [h1, h2] at h
    | some l' => simp [h1, h2] at h; exact ⟨y, l', rfl, rfl, h.symm⟩
theorem odsOf_nil {l : List Od} {xs : List Operand} (h : odsOf xs = some l) (hl : l = []) : xs = [] := by
  cases xs with
  | nil => rfl
  | cons x r => obtain ⟨y, l', _, _, e⟩ := odsOf_cons h; rw [hl] at e; cases e
theorem odsOf_one {l : List Operand} {y : Od} (h : odsOf l = some [y]) : ∃ x, l = [x] ∧ odOf x = some y := by
  cases l with
  | nil => simp [odsOf] at h
  | cons x r =>
    obtain ⟨y', l', h1, h2, e⟩ := odsOf_cons h
    injection e with e1 e2; subst e1
    rw [odsOf_nil h2 e2.symm]; exact ⟨x, rfl, h1⟩
theorem odsOf_two {l : List Operand} {y z : Od} (h : odsOf l = some [y, z]) : ∃ x x', l = [x, x'] ∧ odOf x = some y ∧ odOf x' = some z := by
  cases l with
  | nil => simp [odsOf] at h
  | cons x r =>
    obtain ⟨y', l', h1, h2, e⟩ := odsOf_cons h
    injection e with e1 e2; subst e1; subst e2
    obtain ⟨x', rfl, h3⟩ := odsOf_one h2
    exact ⟨x, x', rfl, h1, h3⟩

theorem simD0 (hr : Rel w S β O) (hs : Slots w S β O σ a.tmps) {op : DOp} (hop : opOf P ann o = some (.d op)) (hnc : ∀ f l, op ≠ .call f l) (hd : stepD Γ O (ev σ) op = some v) : Val P w S β O a o v := by
  unfold opOf at hop
  split at hop
  · -- move
    rename_i x ho
    cases h : odOf x with
    | none => simp [h] at hop
    | some y => simp [h] at hop; subst hop; exact sim_mv hs (.inl ho) h hd
  · -- assign
    rename_i x ho
    cases h : odOf x with
    | none => simp [h] at hop
    | some y => simp [h] at hop; subst hop; exact sim_mv hs (.inr ho) h hd
  · -- pick
    rename_i c x y ho
    split at hop
    · rename_i h1 h2 h3
      injection hop with hop; injection hop with hop; subst hop
      exact sim_pick hs ho h1 h2 h3 hd
    · cases hop
  · -- alloc
    rename_i t ho
    split at hop <;> (cases h : tyZero P t <;> simp [h] at hop)
  · -- box
    split at hop <;> cases hop
  · -- build
    rename_i t ps ho
    split at hop
    · rename_i h1 h2
      split at hop
      · rename_i hf
        injection hop with hop; injection hop with hop; subst hop
        exact sim_build hs ho h1 h2 hf hd
      · cases hop
    · cases hop
  · -- buildSlice
    split at hop
    · split at hop
      · split at hop
        · split at hop <;> cases hop
        · cases hop
      · cases hop
    · cases hop
  · -- load
    rename_i t x ho
    split at hop
    · rename_i h1 h2 h3
      injection hop with hop; injection hop with hop; subst hop
      exact sim_load hr hs ho h1 h2 h3 hd
    · cases hop
  · -- store
    split at hop <;> cases hop
  · -- nilCheck
    rename_i x ho
    cases h : odOf x with
    | none => simp [h] at hop
    | some y => simp [h] at hop; subst hop; exact sim_nilck hs ho h hd
  · -- binOp
    rename_i bop t x y t' ho
    split at hop
    · rename_i h1 h2 h3
      injection hop with hop; injection hop with hop; subst hop
      exact sim_bin hs ho h1 h2 h3 hd
    · cases hop
  · -- not
    rename_i t x ho
    cases h : odOf x with
    | none => simp [h] at hop
    | some y => simp [h] at hop; subst hop; exact sim_not hs ho h hd
  · -- neg
    rename_i t x ho
    cases h : odOf x with
    | none => simp [h] at hop
    | some y => simp [h] at hop; subst hop; exact sim_neg hs ho h hd
  · -- convert
    rename_i s t x ho
    split at hop
    · rename_i h1 h2 h3
      injection hop with hop; injection hop with hop; subst hop
      exact sim_conv hs ho h1 h2 h3 hd
    · rename_i h1 h2 h3
      split at hop
      · rename_i hc
        injection hop with hop; injection hop with hop; subst hop
        exact sim_convS hr hs ho h1 h2 (by unfold isU8 at hc; split at hc; assumption; cases hc) h3 hd
      · cases hop
    · cases hop
  · -- makeFunc
    rename_i f p q ho
    split at hop
    · rename_i h1 h2
      injection hop with hop; injection hop with hop; subst hop
      exact sim_mkfn hs ho h1 h2 hd
    · cases hop
  · split at hop <;> cases hop
  · -- makeSlice
    split at hop
    · split at hop
      · split at hop
        · split at hop <;> cases hop
        · cases hop
      · cases hop
    · cases hop
  · -- slice
    rename_i t x lo hi ho
    split at hop
    · rename_i e hu
      split at hop
      · rename_i h1 h2 h3 h4
        injection hop with hop; injection hop with hop; subst hop
        exact sim_slc hs ho hu h1 h2 h3 h4 hd
      · cases hop
    · rename_i hu
      split at hop
      · rename_i h2 h3 h4
        injection hop with hop; injection hop with hop; subst hop
        exact sim_slcS hs ho hu h2 h3 h4 hd
      · cases hop
    · rename_i n e hu
      split at hop
      · rename_i h2 h3 h4 h5
        split at hop
        · split at hop <;> cases hop
        · injection hop with hop; injection hop with hop; subst hop
          exact sim_slcA hs ho hu h2 h3 h4 h5 hd
      · cases hop
    · cases hop
  · -- slice, with a bound
    rename_i t x lo hi mx ho
    split at hop
    · rename_i e hu
      split at hop
      · rename_i h2 h3 h4 h5 h6
        injection hop with hop; injection hop with hop; subst hop
        exact sim_slc3 hs ho hu h2 h3 h4 h5 h6 hd
      · cases hop
    · cases hop
  · -- fieldAddr
    rename_i t x f ho
    split at hop
    · rename_i fs hu
      split at hop
      · rename_i fd hf
        split at hop
        · rename_i h1 h2
          split at hop
          · cases hop
          · rename_i h0
            injection hop with hop; injection hop with hop; subst hop
            exact sim_fa hs ho hu hf h1 h0 h2 hd
        · cases hop
      · cases hop
    · cases hop
  · -- field
    rename_i t x f ho
    split at hop
    · rename_i fs hu
      split at hop
      · rename_i fd hf
        split at hop
        · rename_i h1 h2 h3
          injection hop with hop; injection hop with hop; subst hop
          exact sim_fld hs ho hu hf h1 h2 h3 hd
        · cases hop
      · cases hop
    · cases hop
  · -- indexAddr
    rename_i t x i ho
    split at hop
    · rename_i e hu
      split at hop
      · rename_i h1 h2 h3
        injection hop with hop; injection hop with hop; subst hop
        exact sim_ia hs ho hu h1 h2 h3 hd
      · cases hop
    · rename_i n e hu
      split at hop
      · rename_i h1 h2 h3
        injection hop with hop; injection hop with hop; subst hop
        exact sim_iaA hs ho hu h1 h2 h3 hd
      · cases hop
    · cases hop
  · -- index
    rename_i t x i ho
    split at hop
    · rename_i h1 h2 h3
      injection hop with hop; injection hop with hop; subst hop
      exact sim_idxS hs ho h1 h2 h3 hd
    · cases hop
  · -- lookup
    rename_i t m k ok ho
    split at hop
    · rename_i kt e hu
      split at hop
      · rename_i h1 h2 h3 h4
        injection hop with hop; injection hop with hop; subst hop
        exact sim_lookup hr hs ho hu h1 h2 h3 h4 hd
      · cases hop
    · cases hop
  · -- mapUpdate
    split at hop
    · split at hop <;> cases hop
    · cases hop
  · -- extract
    rename_i x i ho
    cases h : odOf x with
    | none => simp [h] at hop
    | some y => simp [h] at hop; subst hop; exact sim_extract hs ho h hd
  · -- call
    rename_i c ho
    split at hop
    · split at hop
      · split at hop
        · split at hop <;> cases hop
        · injection hop with hop; injection hop with hop; subst hop
          exact absurd rfl (hnc _ _)
      · cases hop
    · rename_i x hc hargs
      obtain ⟨x', hx', hxo⟩ := odsOf_one hargs
      cases ht : c.argTypes[0]? with
      | none => simp [ht] at hop
      | some t =>
        simp only [ht, Option.bind_some] at hop
        split at hop
        · rename_i e hu
          injection hop with hop; injection hop with hop; subst hop
          exact sim_len hs ho hc hx' ht hu hxo hd
        · rename_i hu
          injection hop with hop; injection hop with hop; subst hop
          exact sim_lenS hs ho hc hx' ht hu hxo hd
        · cases hop
    · split at hop
      · split at hop <;> cases hop
      · cases hop
    · split at hop
      · split at hop
        · split at hop <;> cases hop
        · cases hop
      · cases hop
    · rename_i x y hc hargs
      obtain ⟨x', y', hl, h1, h2⟩ := odsOf_two hargs
      injection hop with hop; injection hop with hop; subst hop
      exact sim_max2 hs ho hc hl h1 h2 hd
    · rename_i x y hc hargs
      obtain ⟨x', y', hl, h1, h2⟩ := odsOf_two hargs
      injection hop with hop; injection hop with hop; subst hop
      exact sim_min2 hs ho hc hl h1 h2 hd
    · split at hop
      · split at hop
        · split at hop <;> cases hop
        · cases hop
      · cases hop
    · cases hop
  · cases hop
end
end Go.Proofs.YtpobnchalcokoaaDoor.Pam
