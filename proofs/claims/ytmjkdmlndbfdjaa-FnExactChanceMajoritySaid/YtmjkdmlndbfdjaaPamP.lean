/- A part of the proof that stands in this folder: a small machine whose steps are shown to be the steps of the model. No condition of its own. -/
import Derived.Test.YtmjkdmlndbfdjaaPamO
set_option linter.unusedVariables false
set_option linter.unusedSimpArgs false
namespace Go.Proofs.Ytmjkdmlndbfdjaa.Pam
open Go

theorem ev_congr {σ σ' : Env} {x : Od} (h : ∀ t ∈ x.tmps, σ t = σ' t) : ev σ x = ev σ' x := by
  cases x with
  | t n => exact h n (by simp [Od.tmps])
  | c v => rfl
  | f g => rfl
theorem evs_congr {σ σ' : Env} {l : List Od} (h : ∀ t ∈ l.flatMap Od.tmps, σ t = σ' t) : l.map (ev σ) = l.map (ev σ') :=
  List.map_congr_left fun x hx => ev_congr fun t ht => h t (List.mem_flatMap.2 ⟨x, hx, ht⟩)
theorem loA_congr {σ σ' : Env} {x : Option Od} (h : ∀ t ∈ optTmps x, σ t = σ' t) : loA (ev σ) x = loA (ev σ') x := by
  cases x with
  | none => rfl
  | some x => simp only [loA]; rw [ev_congr h]
theorem hiA_congr {σ σ' : Env} {x : Option Od} {n : Option Nat} (h : ∀ t ∈ optTmps x, σ t = σ' t) : hiA (ev σ) n x = hiA (ev σ') n x := by
  cases x with
  | none => rfl
  | some x => simp only [hiA]; rw [ev_congr h]
theorem buildA_congr {σ σ' : Env} {O : Objs} : ∀ {ps : List (Nat × Nat × Od)} {cs : List SV}, (∀ t ∈ ps.flatMap (fun p => p.2.2.tmps), σ t = σ' t) → buildA O (ev σ) ps cs = buildA O (ev σ') ps cs
  | [], _, _ => rfl
  | (off, n, x) :: r, cs, h => by
    simp only [buildA]
    rw [ev_congr (σ := σ) (σ' := σ') (x := x) fun t ht => h t (by simp [ht])]
    cases cellsA O (ev σ' x) with
    | none => rfl
    | some vs => simp only []; rw [buildA_congr fun t ht => h t (by rw [List.flatMap_cons]; exact List.mem_append_right _ ht)]

theorem stepD_congr {Γ : Gam} {O : Objs} {σ σ' : Env} {op : DOp} (h : ∀ t ∈ op.tmps, σ t = σ' t) : stepD Γ O (ev σ) op = stepD Γ O (ev σ') op := by
  cases op <;> simp only [DOp.tmps, List.mem_append] at h <;> simp only [stepD]
  case mv x => rw [ev_congr h]
  case pick c a b => rw [ev_congr fun t ht => h t (.inl (.inl ht)), ev_congr fun t ht => h t (.inl (.inr ht)), ev_congr fun t ht => h t (.inr ht)]
  case build z ps => rw [buildA_congr h]
  case load ag n x => rw [ev_congr h]
  case nilck x => rw [ev_congr h]
  case bin k op x y => rw [ev_congr fun t ht => h t (.inl ht), ev_congr fun t ht => h t (.inr ht)]
  case not x => rw [ev_congr h]
  case conv k x => rw [ev_congr h]
  case mkfn f x y => rw [evs_congr fun t ht => h t (.inl ht), evs_congr fun t ht => h t (.inr ht)]
  case slc sz x lo hi => rw [ev_congr fun t ht => h t (.inl (.inl ht)), loA_congr fun t ht => h t (.inl (.inr ht)), hiA_congr fun t ht => h t (.inr ht)]
  case slcS x lo hi => rw [ev_congr fun t ht => h t (.inl (.inl ht)), loA_congr fun t ht => h t (.inl (.inr ht))]; simp only [hiA_congr fun t ht => h t (.inr ht)]
  case fa o x => rw [ev_congr h]
  case fld ag o n x => rw [ev_congr h]
  case ia sz x y => rw [ev_congr fun t ht => h t (.inl ht), ev_congr fun t ht => h t (.inr ht)]
  case iaA l sz x y => rw [ev_congr fun t ht => h t (.inl ht), ev_congr fun t ht => h t (.inr ht)]
  case extract x i => rw [ev_congr h]
  case call f l => rw [ev_congr fun t ht => h t (.inl ht), evs_congr fun t ht => h t (.inr ht)]
  case len x => rw [ev_congr h]
  case lenS x => rw [ev_congr h]
  case max2 x y => rw [ev_congr fun t ht => h t (.inl ht), ev_congr fun t ht => h t (.inr ht)]
  case min2 x y => rw [ev_congr fun t ht => h t (.inl ht), ev_congr fun t ht => h t (.inr ht)]

theorem wantA_congr {σ σ' : Env} {g : Option (Nat × Bool)} (h : ∀ s b, g = some (s, b) → σ s = σ' s) : wantA g σ = wantA g σ' := by
  cases g with
  | none => rfl
  | some p => obtain ⟨s, b⟩ := p; simp only [wantA]; rw [h s b rfl]

theorem RO.apart_spec {x y : RO} (h : x.apart y = true) : (∀ d, x.dst = some d → d ∉ y.looks) ∧ (∀ d, x.dst = some d → y.dst ≠ some d) ∧ (∀ d, y.dst = some d → d ∉ x.looks) := by
  refine ⟨fun d hd => ?_, fun d hd => ?_, fun d hd => ?_⟩ <;> simp [RO.apart, hd] at h
  · exact h.1.1
  · exact h.1.2
  · exact h.2

section canon
variable (Γ : Gam) (O : Objs)
/-- What an operation that leaves the objects alone answers. -/
def valD (ro : RO) (σ : Env) : SV := match wantA ro.guard σ with
  | some true => match ro.op with
    | .d op => (stepD Γ O (ev σ) op).getD .un
    | _ => .un
  | _ => .un
def okD (ro : RO) (σ : Env) : Prop := (wantA ro.guard σ = some true ∧ ∃ op, ro.op = .d op ∧ stepD Γ O (ev σ) op = some (valD Γ O ro σ)) ∨ (wantA ro.guard σ = some false ∧ valD Γ O ro σ = .un)
def envD (b : List RO) (σ : Env) : Env := b.foldl (fun σ ro => put ro.dst (valD Γ O ro σ) σ) σ

theorem runD_canon : ∀ (b : List RO) (σ : Env) (K : Env → Prop), runD Γ [] O b σ K → (∀ m (hm : m < b.length), okD Γ O b[m] (envD Γ O (b.take m) σ)) ∧ K (envD Γ O b σ) := by
  intro b
  induction b with
  | nil => intro σ K h; exact ⟨fun m hm => by simp at hm, h⟩
  | cons ro r ih =>
    intro σ K h
    simp only [runD] at h
    have key : okD Γ O ro σ ∧ runD Γ [] O r (put ro.dst (valD Γ O ro σ) σ) K := by
      split at h
      · rename_i hw
        split at h
        · rename_i op he
          obtain ⟨v, hv, _, h⟩ := h
          have e : valD Γ O ro σ = v := by simp [valD, hw, he, hv]
          exact ⟨.inl ⟨hw, op, he, by rw [e]; exact hv⟩, by rw [e]; exact h⟩
        · exact h.elim
      · rename_i hw
        have e : valD Γ O ro σ = .un := by simp [valD, hw]
        exact ⟨.inr ⟨hw, e⟩, by rw [e]; exact h⟩
      · exact h.elim
    obtain ⟨g1, g2⟩ := ih _ _ key.2
    refine ⟨fun m hm => ?_, by simpa [envD] using g2⟩
    cases m with
    | zero => simpa [envD] using key.1
    | succ m => simpa [envD] using g1 m (by simpa using hm)
end canon

/-- The slots once the operations in 'L' are done. -/
def envL (b : List RO) (vs : Nat → SV) (L : Nat → Bool) (σ : Env) : Nat → Env
  | 0 => σ
  | m + 1 => if L m then put ((b.getD m default).dst) (vs m) (envL b vs L σ m) else envL b vs L σ m

theorem envL_congr {b : List RO} {vs vs' : Nat → SV} {L L' : Nat → Bool} {σ : Env} : ∀ {m : Nat}, (∀ i, i < m → L i = L' i) → (∀ i, i < m → vs i = vs' i) → envL b vs L σ m = envL b vs' L' σ m
  | 0, _, _ => rfl
  | m + 1, h, h' => by simp only [envL]; rw [h m (by omega), h' m (by omega), envL_congr (fun i hi => h i (by omega)) (fun i hi => h' i (by omega))]

theorem envD_envL (Γ : Gam) (O : Objs) (b : List RO) (σ : Env) : ∀ m, m ≤ b.length → envD Γ O (b.take m) σ = envL b (fun i => valD Γ O (b.getD i default) (envD Γ O (b.take i) σ)) (fun _ => true) σ m
  | 0, _ => rfl
  | m + 1, h => by
    have hm : m < b.length := h
    simp only [envL, if_true]
    rw [← envD_envL Γ O b σ m (by omega)]
    have e : b.take (m + 1) = b.take m ++ [b[m]] := List.take_succ_eq_append_getElem hm
    have e2 : b.getD m default = b[m] := by simp [hm]
    rw [e, e2]
    simp only [envD, List.foldl_append, List.foldl_cons, List.foldl_nil]

/-- A slot that none of them writes any more. -/
theorem envL_at {b : List RO} {vs : Nat → SV} {L : Nat → Bool} {σ : Env} {s j : Nat} : ∀ {m : Nat}, j ≤ m → (∀ i, j ≤ i → i < m → L i = true → (b.getD i default).dst ≠ some s) → envL b vs L σ m s = envL b vs L σ j s
  | 0, h, _ => by rw [Nat.le_zero.1 h]
  | m + 1, h, hn => by
    by_cases e : j = m + 1
    · rw [e]
    · simp only [envL]
      have ih := envL_at (b := b) (vs := vs) (L := L) (σ := σ) (s := s) (j := j) (m := m) (by omega) fun i h1 h2 => hn i h1 (by omega)
      split
      · rename_i hl
        have := hn m (by omega) (by omega) hl
        cases hd : (b.getD m default).dst with
        | none => simpa [put] using ih
        | some d =>
          have hne : s ≠ d := fun e => this (by rw [hd, e])
          simp only [put]
          rw [if_neg hne]; exact ih
      · exact ih
/-- A slot that each of them writes that is not yet done, does not count. -/
theorem envL_all {b : List RO} {vs : Nat → SV} {L : Nat → Bool} {σ : Env} {s : Nat} : ∀ {m : Nat}, (∀ i, i < m → L i = false → (b.getD i default).dst ≠ some s) → envL b vs L σ m s = envL b vs (fun _ => true) σ m s
  | 0, _ => rfl
  | m + 1, hn => by
    simp only [envL, if_true]
    have ih := envL_all (b := b) (vs := vs) (L := L) (σ := σ) (s := s) (m := m) fun i h => hn i (by omega)
    cases hl : L m with
    | true =>
      simp only [if_true]
      cases hd : (b.getD m default).dst with
      | none => simpa [put] using ih
      | some d =>
        simp only [put]
        by_cases h : s = d
        · rw [if_pos h, if_pos h]
        · rw [if_neg h, if_neg h]; exact ih
    | false =>
      have := hn m (by omega) hl
      simp only [Bool.false_eq_true, if_false]
      cases hd : (b.getD m default).dst with
      | none => simpa [put] using ih
      | some d =>
        have hne : s ≠ d := fun e => this (by rw [hd, e])
        simp only [put]; rw [if_neg hne]; exact ih

theorem put_comm {x y : Option Nat} {v u : SV} {σ : Env} (h : ∀ d, x = some d → y ≠ some d) : put y u (put x v σ) = put x v (put y u σ) := by
  cases x with
  | none => rfl
  | some d =>
    cases y with
    | none => rfl
    | some e =>
      have hne : e ≠ d := fun he => h d rfl (by rw [he])
      funext i
      simp only [put]
      by_cases h1 : i = e
      · rw [if_pos h1, if_neg (fun h2 => hne (h1.symm.trans h2)), if_pos h1]
      · rw [if_neg h1, if_neg h1]

/-- One more is done: 'put' may come last. -/
theorem envL_set {b : List RO} {vs : Nat → SV} {L : Nat → Bool} {σ : Env} {j : Nat} : ∀ {m : Nat}, j < m → L j = false → (∀ i, j < i → i < m → L i = true → ∀ d, (b.getD j default).dst = some d → (b.getD i default).dst ≠ some d) →
    envL b vs (fun i => if i = j then true else L i) σ m = put ((b.getD j default).dst) (vs j) (envL b vs L σ m)
  | 0, h, _, _ => by omega
  | m + 1, h, hj, hn => by
    by_cases e : j = m
    · subst e
      have : envL b vs (fun i => if i = j then true else L i) σ j = envL b vs L σ j := envL_congr (fun i hi => by simp [Nat.ne_of_lt hi]) fun _ _ => rfl
      simp only [envL, if_true, this, hj, Bool.false_eq_true, if_false]
    · have ih := envL_set (b := b) (vs := vs) (L := L) (σ := σ) (j := j) (m := m) (by omega) hj fun i h1 h2 => hn i h1 (by omega)
      have e' : ¬ m = j := fun h => e h.symm
      simp only [envL, if_neg e']
      rw [ih]
      cases hl : L m with
      | false => simp
      | true =>
        simp only [if_true]
        have := hn m (by omega) (by omega) hl
        exact put_comm fun d hd => this d hd
end Go.Proofs.Ytmjkdmlndbfdjaa.Pam
