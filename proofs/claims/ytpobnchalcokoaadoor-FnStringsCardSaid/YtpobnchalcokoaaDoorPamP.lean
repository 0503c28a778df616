/- A part of the proof that stands in this folder: a small machine whose steps are shown to be the steps of the model, or walks of functions by it. No condition of its own. -/
import Derived.Test.YtpobnchalcokoaaDoorPamO
set_option linter.unusedVariables false
set_option linter.unusedSimpArgs false
namespace Go.Proofs.YtpobnchalcokoaaDoor.Pam
open Go

theorem ev_congr {σ σ' : Env} {x : Od} (h : ∀ t ∈ x.tmps, σ t = σ' t) : ev σ x = ev σ' x := by
  cases x with
  | t n => exact h n (by simp [Od.tmps])
  | c v => rfl
  | f g => rfl
theorem evs_congr {σ σ' : Env} {l : List Od} (h : ∀ t ∈ l.flatMap Od.tmps, σ t = σ' t) : l.map (ev σ) = l.map (ev σ') :=
  List.map_congr_left fun x hx => ev_congr fun t ht => h t (List.mem_flatMap.2 ⟨x, hx, ht⟩)
theorem loA_congr {σ σ' : Env} {x : Option Od} (h : ∀ t ∈ optTmps x, σ t = σ' t) : loA (ev σ) x = loA (ev σ') x := by
  cases x with
  | none => rfl
  | some x => simp only [loA]; rw [ev_congr h]
theorem hiA_congr {σ σ' : Env} {x : Option Od} {n : Option Nat} (h : ∀ t ∈ optTmps x, σ t = σ' t) : hiA (ev σ) n x = hiA (ev σ') n x := by
  cases x with
  | none => rfl
  | some x => simp only [hiA]; rw [ev_congr h]
theorem buildA_congr {σ σ' : Env} {O : Objs} : ∀ {ps : List (Nat × Nat × Od)} {cs : List SV}, (∀ t ∈ ps.flatMap (fun p => p.2.2.tmps), σ t = σ' t) → buildA O (ev σ) ps cs = buildA O (ev σ') ps cs
  | [], _, _ => rfl
  | (off, n, x) :: r, cs, h => by
    simp only [buildA]
    rw [ev_congr (σ := σ) (σ' := σ') (x := x) fun t ht => h t (by simp [ht])]
    cases cellsA O (ev σ' x) with
    | none => rfl
    | some vs => simp only []; rw [buildA_congr fun t ht => h t (by rw [List.flatMap_cons]; exact List.mem_append_right _ ht)]

theorem stepD_congr {Γ : Gam} {O : Objs} {σ σ' : Env} {op : DOp} (h : ∀ t ∈ op.tmps, σ t = σ' t) : stepD Γ O (ev σ) op = stepD Γ O (ev σ') op := by
  cases op <;> simp only [DOp.tmps, List.mem_append] at h <;> simp only [stepD]
  case mv x => rw [ev_congr h]
  case pick c a b => rw [ev_congr fun t ht => h t (.inl (.inl ht)), ev_congr fun t ht => h t (.inl (.inr ht)), ev_congr fun t ht => h t (.inr ht)]
  case build z ps => rw [buildA_congr h]
  case load ag n x => rw [ev_congr h]
  case nilck x => rw [ev_congr h]
  case bin k op x y => rw [ev_congr fun t ht => h t (.inl ht), ev_congr fun t ht => h t (.inr ht)]
  case not x => rw [ev_congr h]
  case neg x => rw [ev_congr h]
  case conv k x => rw [ev_congr h]
  case mkfn f x y => rw [evs_congr fun t ht => h t (.inl ht), evs_congr fun t ht => h t (.inr ht)]
  case slc sz x lo hi => rw [ev_congr fun t ht => h t (.inl (.inl ht)), loA_congr fun t ht => h t (.inl (.inr ht)), hiA_congr fun t ht => h t (.inr ht)]
  case slcS x lo hi => rw [ev_congr fun t ht => h t (.inl (.inl ht)), loA_congr fun t ht => h t (.inl (.inr ht))]; simp only [hiA_congr fun t ht => h t (.inr ht)]
  case slcA n sz x lo hi => rw [ev_congr fun t ht => h t (.inl (.inl ht)), loA_congr fun t ht => h t (.inl (.inr ht)), hiA_congr fun t ht => h t (.inr ht)]
  case slc3 x lo hi mx => rw [ev_congr (x := x) fun t ht => h t (.inl (.inl (.inl ht))), ev_congr (x := lo) fun t ht => h t (.inl (.inl (.inr ht))), ev_congr (x := hi) fun t ht => h t (.inl (.inr ht)), ev_congr (x := mx) fun t ht => h t (.inr ht)]
  case idxS x y => rw [ev_congr (x := x) fun t ht => h t (.inl ht), ev_congr (x := y) fun t ht => h t (.inr ht)]
  case convS x => rw [ev_congr h]
  case lookup z ok kn x y => rw [ev_congr fun t ht => h t (.inl ht), ev_congr fun t ht => h t (.inr ht)]
  case fa o x => rw [ev_congr h]
  case fld ag o n x => rw [ev_congr h]
  case ia sz x y => rw [ev_congr fun t ht => h t (.inl ht), ev_congr fun t ht => h t (.inr ht)]
  case iaA l sz x y => rw [ev_congr fun t ht => h t (.inl ht), ev_congr fun t ht => h t (.inr ht)]
  case extract x i => rw [ev_congr h]
  case call f l => rw [ev_congr fun t ht => h t (.inl ht), evs_congr fun t ht => h t (.inr ht)]
  case len x => rw [ev_congr h]
  case lenS x => rw [ev_congr h]
  case max2 x y => rw [ev_congr fun t ht => h t (.inl ht), ev_congr fun t ht => h t (.inr ht)]
  case min2 x y => rw [ev_congr fun t ht => h t (.inl ht), ev_congr fun t ht => h t (.inr ht)]

theorem wantA_congr {σ σ' : Env} {g : Option (Nat × Bool)} (h : ∀ s b, g = some (s, b) → σ s = σ' s) : wantA g σ = wantA g σ' := by
  cases g with
  | none => rfl
  | some p => obtain ⟨s, b⟩ := p; simp only [wantA]; rw [h s b rfl]

theorem RO.apart_spec {x y : RO} (h : x.apart y = true) : (∀ d, x.dst = some d → d ∉ y.looks) ∧ (∀ d, x.dst = some d → y.dst ≠ some d) ∧ (∀ d, y.dst = some d → d ∉ x.looks) := by
  refine ⟨fun d hd => ?_, fun d hd => ?_, fun d hd => ?_⟩ <;> simp [RO.apart, hd] at h
  · exact h.1.1
  · exact h.1.2
  · exact h.2

theorem partsA_congr {σ σ' : Env} {sz : Nat} : ∀ {ps : List (Nat × Od)} {xs : List PV}, (∀ t ∈ ps.flatMap (fun p => p.2.tmps), σ t = σ' t) → partsA (ev σ) sz ps xs = partsA (ev σ') sz ps xs
  | [], _, _ => rfl
  | (i, x) :: r, xs, h => by
    simp only [partsA]
    rw [ev_congr (σ := σ) (σ' := σ') (x := x) fun t ht => h t (by simp [ht])]
    cases elemOf sz (ev σ' x) with
    | none => rfl
    | some v => simp only []; rw [partsA_congr fun t ht => h t (by rw [List.flatMap_cons]; exact List.mem_append_right _ ht)]
theorem stepM_congr {Γ : Gam} {O : Objs} {d : Option Nat} {σ σ' : Env} {op : WOp} (h : ∀ t ∈ op.tmps, σ t = σ' t) : stepM Γ d O (ev σ) op = stepM Γ d O (ev σ') op := by
  cases op <;> simp only [WOp.tmps] at h <;> simp only [stepM]
  case bslice sz zs ps => rw [partsA_congr h]
  case box n x => rw [ev_congr h]
  case mkslice sz z l => rw [ev_congr h]
  case store n y x =>
    simp only [List.mem_append] at h
    cases y with
    | t tn => simp only [ev_congr (x := .t tn) fun t ht => h t (.inl ht), ev_congr (x := x) fun t ht => h t (.inr ht)]
    | c _ => rfl
    | f _ => rfl
  case callL f l lend own fzs =>
    simp only [List.mem_append] at h
    cases lend with
    | cons _ _ => cases own with
      | succ _ => rfl
      | zero => cases fzs with
        | true => rfl
        | false => simp only [ev_congr fun t ht => h t (.inl ht), evs_congr fun t ht => h t (.inr ht)]
    | nil => cases fzs with
      | true => rfl
      | false => simp only [ev_congr fun t ht => h t (.inl ht), evs_congr fun t ht => h t (.inr ht)]

/-- What an operation of the open part answers, and what it makes. -/
def resB (Γ : Gam) (ex : List Nat) (ro : RO) (σ : Env) (O : Objs) : SV × List (Nat × Ob) := match wantA ro.guard σ with
  | some true => match ro.op with
    | .d op => ((stepD Γ (hideO ex O) (ev σ) op).getD .un, [])
    | .w op => (stepM Γ ro.dst (hideO ex O) (ev σ) op).getD (.un, [])
  | _ => (.un, [])
def exR (ro : RO) (ex : List Nat) : List Nat := match ro.op with
  | .d op => exL op ex
  | .w _ => ex
def okB (Γ : Gam) (ex : List Nat) (ro : RO) (σ : Env) (O : Objs) : Prop :=
  (wantA ro.guard σ = some true ∧ offs (exR ro ex) (resB Γ ex ro σ O).1 = true ∧ ((∃ op, ro.op = .d op ∧ stepD Γ (hideO ex O) (ev σ) op = some (resB Γ ex ro σ O).1 ∧ (resB Γ ex ro σ O).2 = []) ∨ ∃ op, ro.op = .w op ∧ stepM Γ ro.dst (hideO ex O) (ev σ) op = some (resB Γ ex ro σ O))) ∨
    (wantA ro.guard σ = some false ∧ resB Γ ex ro σ O = (.un, []))
def canB (Γ : Gam) (ex : Nat → List Nat) (ro : Nat → RO) (σ : Env) (O : Objs) : Nat → Env × Objs
  | 0 => (σ, O)
  | j + 1 => let s := canB Γ ex ro σ O j; let r := resB Γ (ex j) (ro j) s.1 s.2; (put (ro j).dst r.1 s.1, setL r.2 s.2)

theorem runB_canon {Γ : Gam} {ex : Nat → List Nat} {ro : Nat → RO} {σ : Env} {O : Objs} {K : Env → Objs → Prop} : ∀ (n i : Nat), runB Γ ((List.range' i n).map fun j => (ex j, ro j)) (canB Γ ex ro σ O i).1 (canB Γ ex ro σ O i).2 K →
    (∀ j, i ≤ j → j < i + n → okB Γ (ex j) (ro j) (canB Γ ex ro σ O j).1 (canB Γ ex ro σ O j).2) ∧ K (canB Γ ex ro σ O (i + n)).1 (canB Γ ex ro σ O (i + n)).2
  | 0, i, h => ⟨fun j h1 h2 => by omega, h⟩
  | n + 1, i, h => by
    simp only [List.range'_succ, List.map_cons, runB] at h
    have key : okB Γ (ex i) (ro i) (canB Γ ex ro σ O i).1 (canB Γ ex ro σ O i).2 ∧ runB Γ ((List.range' (i + 1) n).map fun j => (ex j, ro j)) (canB Γ ex ro σ O (i + 1)).1 (canB Γ ex ro σ O (i + 1)).2 K := by
      split at h
      · rename_i hw
        split at h
        · rename_i op he
          obtain ⟨v, hv, ho, h⟩ := h
          have e : resB Γ (ex i) (ro i) (canB Γ ex ro σ O i).1 (canB Γ ex ro σ O i).2 = (v, []) := by simp [resB, hw, he, hv]
          refine ⟨.inl ⟨hw, by rw [e]; simp only [exR, he]; exact ho, .inl ⟨op, he, by rw [e]; exact hv, by rw [e]⟩⟩, ?_⟩
          simp only [canB, e, setL]; exact h
        · rename_i op he
          obtain ⟨p, hp, ho, h⟩ := h
          have e : resB Γ (ex i) (ro i) (canB Γ ex ro σ O i).1 (canB Γ ex ro σ O i).2 = p := by simp [resB, hw, he, hp]
          refine ⟨.inl ⟨hw, by rw [e]; simp only [exR, he]; exact ho, .inr ⟨op, he, by rw [e]; exact hp⟩⟩, ?_⟩
          simp only [canB, e]; exact h
      · rename_i hw
        have e : resB Γ (ex i) (ro i) (canB Γ ex ro σ O i).1 (canB Γ ex ro σ O i).2 = (.un, []) := by simp [resB, hw]
        refine ⟨.inr ⟨hw, e⟩, ?_⟩
        simp only [canB, e, setL]; exact h
      · exact h.elim
    obtain ⟨g1, g2⟩ := runB_canon n (i + 1) key.2
    refine ⟨fun j h1 h2 => ?_, by rw [show i + (n + 1) = i + 1 + n by omega]; exact g2⟩
    by_cases e : j = i
    · subst e; exact key.1
    · exact g1 j (by omega) (by omega)

/-- The objects once the operations in 'L' are done. -/
def objL (ns : Nat → List (Nat × Ob)) (L : Nat → Bool) (O : Objs) : Nat → Objs
  | 0 => O
  | m + 1 => if L m then setL (ns m) (objL ns L O m) else objL ns L O m

theorem setL_in {n : Nat} : ∀ {l : List (Nat × Ob)}, n ∈ l.map (·.1) → ∀ O O' : Objs, setL l O n = setL l O' n
  | [], h, _, _ => by simp at h
  | (k, o) :: r, h, O, O' => by
    simp only [setL, setO]
    split
    · rfl
    · rename_i hne
      rcases List.mem_cons.1 h with e | h
      · exact absurd e hne
      · exact setL_in h O O'
theorem setL_some {n : Nat} : ∀ {l : List (Nat × Ob)}, n ∈ l.map (·.1) → ∀ O : Objs, ∃ ob, (n, ob) ∈ l ∧ setL l O n = some ob
  | [], h, _ => by simp at h
  | (k, o) :: r, h, O => by
    simp only [setL, setO]
    split
    · rename_i e; subst e; exact ⟨o, by simp, rfl⟩
    · rename_i hne
      rcases List.mem_cons.1 h with e | h
      · exact absurd e hne
      · obtain ⟨ob, h1, h2⟩ := setL_some h O
        exact ⟨ob, List.mem_cons_of_mem _ h1, h2⟩

theorem objL_miss {ns : Nat → List (Nat × Ob)} {L : Nat → Bool} {O : Objs} {n : Nat} : ∀ {m : Nat}, (∀ i, i < m → L i = true → n ∉ (ns i).map (·.1)) → objL ns L O m n = O n
  | 0, _ => rfl
  | m + 1, h => by
    simp only [objL]
    split
    · rename_i hl
      rw [setL_miss (h m (by omega) hl)]
      exact objL_miss fun i hi => h i (by omega)
    · exact objL_miss fun i hi => h i (by omega)
theorem objL_hit {ns : Nat → List (Nat × Ob)} {L : Nat → Bool} {O : Objs} {n i : Nat} : ∀ {m : Nat}, i < m → L i = true → n ∈ (ns i).map (·.1) → (∀ j, j < m → j ≠ i → n ∉ (ns j).map (·.1)) → objL ns L O m n = setL (ns i) (fun _ => none) n
  | 0, h, _, _, _ => by omega
  | m + 1, h, hL, hn, hu => by
    simp only [objL]
    by_cases e : m = i
    · subst e
      rw [if_pos hL]; exact setL_in hn _ _
    · have ih := objL_hit (ns := ns) (O := O) (m := m) (by omega) hL hn fun j hj => hu j (by omega)
      split
      · rw [setL_miss (hu m (by omega) e)]; exact ih
      · exact ih
theorem objL_congr {ns : Nat → List (Nat × Ob)} {L L' : Nat → Bool} {O : Objs} : ∀ {m : Nat}, (∀ i, i < m → L i = L' i) → objL ns L O m = objL ns L' O m
  | 0, _ => rfl
  | m + 1, h => by simp only [objL]; rw [h m (by omega), objL_congr fun i hi => h i (by omega)]

/-- The slots once the operations in 'L' are done. -/
def envL (b : List RO) (vs : Nat → SV) (L : Nat → Bool) (σ : Env) : Nat → Env
  | 0 => σ
  | m + 1 => if L m then put ((b.getD m default).dst) (vs m) (envL b vs L σ m) else envL b vs L σ m

theorem envL_congr {b : List RO} {vs vs' : Nat → SV} {L L' : Nat → Bool} {σ : Env} : ∀ {m : Nat}, (∀ i, i < m → L i = L' i) → (∀ i, i < m → vs i = vs' i) → envL b vs L σ m = envL b vs' L' σ m
  | 0, _, _ => rfl
  | m + 1, h, h' => by simp only [envL]; rw [h m (by omega), h' m (by omega), envL_congr (fun i hi => h i (by omega)) (fun i hi => h' i (by omega))]

theorem can_envL (Γ : Gam) (ex : Nat → List Nat) (b : List RO) (σ : Env) (O : Objs) : ∀ m, canB Γ ex (fun j => b.getD j default) σ O m =
    (envL b (fun i => (resB Γ (ex i) (b.getD i default) (canB Γ ex (fun j => b.getD j default) σ O i).1 (canB Γ ex (fun j => b.getD j default) σ O i).2).1) (fun _ => true) σ m,
     objL (fun i => (resB Γ (ex i) (b.getD i default) (canB Γ ex (fun j => b.getD j default) σ O i).1 (canB Γ ex (fun j => b.getD j default) σ O i).2).2) (fun _ => true) O m)
  | 0 => rfl
  | m + 1 => by
    have ih := can_envL Γ ex b σ O m
    simp only [canB, envL, objL, if_true]
    rw [Prod.ext_iff] at ih
    simp only at ih
    rw [← ih.1, ← ih.2]

/-- A slot that none of them writes any more. -/
theorem envL_at {b : List RO} {vs : Nat → SV} {L : Nat → Bool} {σ : Env} {s j : Nat} : ∀ {m : Nat}, j ≤ m → (∀ i, j ≤ i → i < m → L i = true → (b.getD i default).dst ≠ some s) → envL b vs L σ m s = envL b vs L σ j s
  | 0, h, _ => by rw [Nat.le_zero.1 h]
  | m + 1, h, hn => by
    by_cases e : j = m + 1
    · rw [e]
    · simp only [envL]
      have ih := envL_at (b := b) (vs := vs) (L := L) (σ := σ) (s := s) (j := j) (m := m) (by omega) fun i h1 h2 => hn i h1 (by omega)
      split
      · rename_i hl
        have := hn m (by omega) (by omega) hl
        cases hd : (b.getD m default).dst with
        | none => simpa [put] using ih
        | some d =>
          have hne : s ≠ d := fun e => this (by rw [hd, e])
          simp only [put]
          rw [if_neg hne]; exact ih
      · exact ih
/-- A slot that each of them writes that is not yet done, does not count. -/
theorem envL_all {b : List RO} {vs : Nat → SV} {L : Nat → Bool} {σ : Env} {s : Nat} : ∀ {m : Nat}, (∀ i, i < m → L i = false → (b.getD i default).dst ≠ some s) → envL b vs L σ m s = envL b vs (fun _ => true) σ m s
  | 0, _ => rfl
  | m + 1, hn => by
    simp only [envL, if_true]
    have ih := envL_all (b := b) (vs := vs) (L := L) (σ := σ) (s := s) (m := m) fun i h => hn i (by omega)
    cases hl : L m with
    | true =>
      simp only [if_true]
      cases hd : (b.getD m default).dst with
      | none => simpa [put] using ih
      | some d =>
        simp only [put]
        by_cases h : s = d
        · rw [if_pos h, if_pos h]
        · rw [if_neg h, if_neg h]; exact ih
    | false =>
      have := hn m (by omega) hl
      simp only [Bool.false_eq_true, if_false]
      cases hd : (b.getD m default).dst with
      | none => simpa [put] using ih
      | some d =>
        have hne : s ≠ d := fun e => this (by rw [hd, e])
        simp only [put]; rw [if_neg hne]; exact ih

theorem put_comm {x y : Option Nat} {v u : SV} {σ : Env} (h : ∀ d, x = some d → y ≠ some d) : put y u (put x v σ) = put x v (put y u σ) := by
  cases x with
  | none => rfl
  | some d =>
    cases y with
    | none => rfl
    | some e =>
      have hne : e ≠ d := fun he => h d rfl (by rw [he])
      funext i
      simp only [put]
      by_cases h1 : i = e
      · rw [if_pos h1, if_neg (fun h2 => hne (h1.symm.trans h2)), if_pos h1]
      · rw [if_neg h1, if_neg h1]

/-- One more is done: 'put' may come last. -/
theorem envL_set {b : List RO} {vs : Nat → SV} {L : Nat → Bool} {σ : Env} {j : Nat} : ∀ {m : Nat}, j < m → L j = false → (∀ i, j < i → i < m → L i = true → ∀ d, (b.getD j default).dst = some d → (b.getD i default).dst ≠ some d) →
    envL b vs (fun i => if i = j then true else L i) σ m = put ((b.getD j default).dst) (vs j) (envL b vs L σ m)
  | 0, h, _, _ => by omega
  | m + 1, h, hj, hn => by
    by_cases e : j = m
    · subst e
      have : envL b vs (fun i => if i = j then true else L i) σ j = envL b vs L σ j := envL_congr (fun i hi => by simp [Nat.ne_of_lt hi]) fun _ _ => rfl
      simp only [envL, if_true, this, hj, Bool.false_eq_true, if_false]
    · have ih := envL_set (b := b) (vs := vs) (L := L) (σ := σ) (j := j) (m := m) (by omega) hj fun i h1 h2 => hn i h1 (by omega)
      have e' : ¬ m = j := fun h => e h.symm
      simp only [envL, if_neg e']
      rw [ih]
      cases hl : L m with
      | false => simp
      | true =>
        simp only [if_true]
        have := hn m (by omega) (by omega) hl
        exact put_comm fun d hd => this d hd
end Go.Proofs.YtpobnchalcokoaaDoor.Pam
