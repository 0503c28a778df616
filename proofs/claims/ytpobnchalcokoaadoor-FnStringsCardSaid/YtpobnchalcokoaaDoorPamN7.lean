/- A part of the proof that stands in this folder: a small machine whose steps are shown to be the steps of the model, or walks of functions by it. No condition of its own. -/
import Derived.Test.YtpobnchalcokoaaDoorPamN5
import Derived.Test.YtpobnchalcokoaaDoorPamN6
set_option linter.unusedVariables false
set_option linter.unusedSimpArgs false
namespace Go.Proofs.YtpobnchalcokoaaDoor.Pam
open Go

theorem resG_F {ext fs : List Ob} {j : Nat} : resG ext fs (F j) = fs[j]? := by
  have h1 : 2000000 ≤ F j := by simp only [F]; omega
  have h3 : F j - 2000000 = j := by simp only [F]; omega
  unfold resG
  rw [if_pos h1, h3]
theorem resG_X {ext fs : List Ob} {i : Nat} (h : i < 1000000) (hg : goneAt ext i = false) : resG ext fs (X i) = ext[i]? := by
  have h1 : ¬ 2000000 ≤ X i := by simp only [X]; omega
  have h2 : 1000000 ≤ X i := by simp only [X]; omega
  have h3 : X i - 1000000 = i := by simp only [X]; omega
  unfold resG
  rw [if_neg h1, if_pos h2, h3]
  unfold goneAt at hg
  cases he : ext[i]? with
  | none => rfl
  | some o => rw [he] at hg; simp only at hg; simp [liveO, hg]
theorem resG_inv {ext fs : List Ob} {n : Nat} (h : resG ext fs n ≠ none) : (∃ j, j < fs.length ∧ n = F j) ∨ ∃ i, i < ext.length ∧ n = X i ∧ n < 2000000 ∧ goneAt ext i = false := by
  unfold resG at h
  split at h
  · rename_i h1
    refine .inl ⟨n - 2000000, ?_, by simp only [F]; omega⟩
    rcases Nat.lt_or_ge (n - 2000000) fs.length with g | g
    · exact g
    · exact absurd (List.getElem?_eq_none g) h
  · rename_i h1
    split at h
    · rename_i h2
      refine .inr ⟨n - 1000000, ?_, by simp only [X]; omega, by omega, ?_⟩
      · rcases Nat.lt_or_ge (n - 1000000) ext.length with g | g
        · exact g
        · rw [List.getElem?_eq_none g] at h; exact absurd rfl h
      · unfold goneAt
        cases he : ext[n - 1000000]? with
        | none => rfl
        | some o =>
          rw [he] at h
          simp only [liveO] at h
          cases hg : gone o with
          | false => exact hg
          | true => rw [hg] at h; exact absurd rfl h
    · exact absurd rfl h

theorem goneAt_get {ext' : List Ob} {i : Nat} (h : i < ext'.length) : goneAt ext' i = gone ext'[i] := by
  simp [goneAt, h]
theorem goneN_mem : ∀ {le : List Nat} {ext' : List Ob} {n : Nat}, n ∈ goneN le ext' ↔ ∃ i, ∃ h : i < le.length, i < ext'.length ∧ le[i] = n ∧ goneAt ext' i = true
  | [], ext', n => by simp [goneN]
  | m :: r, [], n => by simp [goneN]
  | m :: r, o :: q, n => by
    have ih := goneN_mem (le := r) (ext' := q) (n := n)
    have h0 : goneAt (o :: q) 0 = gone o := rfl
    have hs : ∀ i, goneAt (o :: q) (i + 1) = goneAt q i := fun i => by simp [goneAt]
    simp only [goneN]
    constructor
    · intro h
      have : (gone o = true ∧ n = m) ∨ n ∈ goneN r q := by
        cases hg : gone o with
        | true => rw [hg] at h; simp only [if_true, List.mem_cons] at h; exact h.imp (fun e => ⟨rfl, e⟩) id
        | false => rw [hg] at h; simp only [Bool.false_eq_true, if_false] at h; exact .inr h
      rcases this with ⟨hg, e⟩ | h
      · exact ⟨0, by simp, by simp, by simp [e], by rw [h0]; exact hg⟩
      · obtain ⟨i, h1, h2, h3, h4⟩ := ih.1 h
        exact ⟨i + 1, by simp; omega, by simp; omega, by simpa using h3, by rw [hs]; exact h4⟩
    · rintro ⟨i, h1, h2, h3, h4⟩
      cases i with
      | zero =>
        rw [h0] at h4
        rw [if_pos h4]
        simp at h3; simp [h3]
      | succ i =>
        rw [hs] at h4
        have := ih.2 ⟨i, by simpa using h1, by simpa using h2, by simpa using h3, h4⟩
        split
        · exact List.mem_cons_of_mem _ this
        · exact this
theorem updG_sub {f : SV → SV} : ∀ {le : List Nat} {ext' : List Ob} {n : Nat}, n ∈ (updG f le ext').map (·.1) → ∃ i, ∃ h : i < le.length, i < ext'.length ∧ le[i] = n ∧ goneAt ext' i = false
  | [], ext', n, h => by simp [updG] at h
  | m :: r, [], n, h => by simp [updG] at h
  | m :: r, o :: q, n, h => by
    have h0 : goneAt (o :: q) 0 = gone o := rfl
    have hs : ∀ i, goneAt (o :: q) (i + 1) = goneAt q i := fun i => by simp [goneAt]
    simp only [updG] at h
    have : (gone o = false ∧ n = m) ∨ n ∈ (updG f r q).map (·.1) := by
      cases hg : gone o with
      | true => rw [hg] at h; simp only [if_true] at h; exact .inr h
      | false =>
        rw [hg] at h
        simp only [Bool.false_eq_true, if_false, List.map_cons, List.mem_cons] at h
        exact h.imp (fun e => ⟨rfl, e⟩) id
    rcases this with ⟨hg, e⟩ | h
    · exact ⟨0, by simp, by simp, by simp [e], by rw [h0]; exact hg⟩
    · obtain ⟨i, h1, h2, h3, h4⟩ := updG_sub h
      exact ⟨i + 1, by simp; omega, by simp; omega, by simpa using h3, by rw [hs]; exact h4⟩
theorem updG_mem {f : SV → SV} : ∀ {le : List Nat} {ext' : List Ob} {i : Nat} (h : i < le.length) (h' : i < ext'.length), goneAt ext' i = false → (le[i], ext'[i].tr f) ∈ updG f le ext'
  | [], _, i, h, _, _ => by simp at h
  | m :: r, [], i, _, h, _ => by simp at h
  | m :: r, o :: q, 0, _, _, hg => by
    have h0 : goneAt (o :: q) 0 = gone o := rfl
    rw [h0] at hg
    simp [updG, hg]
  | m :: r, o :: q, i + 1, h, h', hg => by
    have hs : goneAt (o :: q) (i + 1) = goneAt q i := by simp [goneAt]
    rw [hs] at hg
    have := updG_mem (f := f) (le := r) (ext' := q) (i := i) (by simpa using h) (by simpa using h') hg
    simp only [updG, List.getElem_cons_succ]
    split
    · exact this
    · exact List.mem_cons_of_mem _ this
theorem updG_nodup {f : SV → SV} : ∀ {le : List Nat} {ext' : List Ob}, le.Nodup → ((updG f le ext').map (·.1)).Nodup
  | [], _, _ => by simp [updG]
  | m :: r, [], _ => by simp [updG]
  | m :: r, o :: q, h => by
    simp only [List.nodup_cons] at h
    simp only [updG]
    split
    · exact updG_nodup h.2
    · simp only [List.map_cons, List.nodup_cons]
      refine ⟨fun hm => h.1 ?_, updG_nodup h.2⟩
      obtain ⟨i, h1, _, e, _⟩ := updG_sub hm
      rw [← e]; exact List.getElem_mem h1
theorem likeG_get : ∀ {a b : List Ob}, likeG a b = true → a.length = b.length ∧ ∀ i (h : i < a.length) (h' : i < b.length), goneAt b i = true ∨ likeO a[i] b[i]
  | [], [], _ => ⟨rfl, fun i h => by simp at h⟩
  | [], _ :: _, h => by simp [likeG] at h
  | _ :: _, [], h => by simp [likeG] at h
  | a :: r, b :: q, h => by
    simp only [likeG, Bool.and_eq_true, Bool.or_eq_true] at h
    obtain ⟨h1, h2⟩ := likeG_get h.2
    refine ⟨by simp [h1], fun i hi hi' => ?_⟩
    cases i with
    | zero => exact h.1.imp (fun e => e) fun e => likeB_O e
    | succ i =>
      have hs : goneAt (b :: q) (i + 1) = goneAt q i := by simp [goneAt]
      rw [hs]
      exact h2 i (by simpa using hi) (by simpa using hi')

section
variable {P : Program} {w w' w1 : World} {S S' S2 : Nat → Prop} {β β' : Nat → Nat} {O O' : Objs} {σ σ' : Env} {a : Act} {o : Oper} {v : SV} {ann : Nat → Option Ann} {Γ : Gam} {tmps : Array Value} {K : Act → World → Prop} {Q : Exit → Act → World → Prop}

/-- What a call leaves to which objects may be given away. -/
def OutG (w w' : World) (S : Nat → Prop) (β : Nat → Nat) (O OF : Objs) (K : List Nat) (v : SV) (x : Value) : Prop :=
  ∃ S' β', Step w w' S S' β β' O OF ∧ Rel w' S' β' OF ∧ (∀ u y, SR w S β O u y → SR w' S' β' OF (u.tr (killL K)) y) ∧ SR w' S' β' OF v x

theorem call_coreG (hΓ : GS P Γ) (hr : Rel w S β O) {fv : SV} {xf : Value} (hf : SR w S β O fv xf) {args : List SV} {xs : Array Value} (hxs : xs.size = args.length) (hargs : ∀ i (_ : i < args.length), SR w S β O args[i] (xs.getD i undef))
    {d own : Nat} {le : List Nat} (hd : d < 50000) (hown : own ≤ 15) (hle : ∀ n ∈ le, O n ≠ none) (hnd : le.Nodup) (hll : le.length ≤ 1000)
    {upd new : List (Nat × Ob)} {gn : List Nat} (hgn : ∀ n ∈ nms d own, n ∈ le → n ∈ gn) (hc : callG Γ O d own le fv args = some (v, upd, gn, new)) :
    ∃ g va vc, xf = .func (.func g) va vc ∧ callable P g ∧ Calls P g (va ++ xs ++ vc) w fun e w' => ∃ x, e = .returned x ∧ OutG w w' S β O (setL new (setL upd (killO (gn ++ nms d own) O))) (gn ++ nms d own) v x := by
  unfold callG at hc
  split at hc
  · rename_i g p q hcal
    obtain ⟨va, vc, hfv, h1, h2, h3, h4⟩ := callee_rel hf hcal
    obtain ⟨h7, h8⟩ := append_rel h1 hxs h3 hargs
    obtain ⟨h9, h10⟩ := append_rel h7 h2 h8 h4
    split at hc
    · rename_i as ext has hext
      split at hc
      · rename_i r ext' fs hg
        split at hc
        · rename_i hcond
          obtain ⟨hfl, hlike, hplain, hA⟩ := hcond
          injection hc with hc
          injection hc with e1 e2; injection e2 with e2 e3; injection e3 with e3 e4
          generalize hall : p ++ args ++ q = all at *
          generalize hvals : va ++ xs ++ vc = vals at *
          obtain ⟨hcl, hpc⟩ := hΓ _ _ _ _ _ _ hg
          obtain ⟨hal, hag⟩ := mapM_some has
          obtain ⟨hel, heg⟩ := mapM_some hext
          obtain ⟨hll', hlk⟩ := likeG_get hlike
          refine ⟨g, va, vc, hfv, hcl, ?_⟩
          rw [hvals]
          have hext_i : ∀ i (h : i < le.length) (h' : i < ext.length), ∃ ob, O le[i] = some ob ∧ ext[i] = ob.tr (nmBy (toX le)) := fun i h h' => by
            have := heg i h h'
            cases ho : O le[i] with
            | none => simp [ho] at this
            | some ob => simp [ho] at this; exact ⟨ob, rfl, this.symm⟩
          have hleF : ∀ m k, toX le m = some k → ∃ i, ∃ h : i < le.length, le[i] = m ∧ k = X i := fun m k h => by
            unfold toX at h
            cases hi : le.findIdx? (· == m) with
            | none => simp [hi] at h
            | some i => simp [hi] at h; obtain ⟨h1, h2⟩ := findIdx_le hi; exact ⟨i, h1, h2, h.symm⟩
          let βc : Nat → Nat := fun n => β (le.getD (n - 1000000) 0)
          have hβc : ∀ i (h : i < le.length), βc (X i) = β le[i] := fun i h => by
            have : X i - 1000000 = i := by simp only [X]; omega
            simp [βc, this, h]
          have hO1 : ∀ i (h : i < le.length) (h' : i < ext.length), resO ext [] (X i) = some ext[i] := fun i h h' => by rw [resO_X (by omega)]; simp [h']
          have hO1inv : ∀ n, resO ext [] n ≠ none → ∃ i, ∃ h : i < le.length, n = X i := fun n hn => by
            rcases resO_inv hn with ⟨i, h, e, _⟩ | ⟨j, h, _⟩
            · exact ⟨i, by omega, e⟩
            · simp at h
          have hν : ∀ m k, toX le m = some k → (O m = none → resO ext [] k = none) ∧ ∀ ob, O m = some ob → resO ext [] k = none ∨ ∃ ob', resO ext [] k = some ob' ∧ likeO ob ob' ∧ βc k = β m := fun m k h => by
            obtain ⟨i, hi, e, ek⟩ := hleF m k h
            subst e; subst ek
            refine ⟨fun hn => absurd hn (hle _ (List.getElem_mem hi)), fun ob hob => .inr ⟨ext[i]'(by omega), hO1 i hi (by omega), ?_, hβc i hi⟩⟩
            obtain ⟨ob', h1, h2⟩ := hext_i i hi (by omega)
            rw [hob] at h1; injection h1 with h1; subst h1
            rw [h2]; exact likeO_tr _ _
          have hhid : ∀ n, hideO le O n = O n ∨ hideO le O n = none := hideO_or le O
          have hrelc : Rel w S βc (resO ext []) := by
            refine ⟨fun n hn => ?_, fun n m hn hm he => ?_, fun b hb => ⟨(hr.sep b hb).1, fun n hn => ?_⟩, fun n ob ho => ?_⟩
            · obtain ⟨i, hi, rfl⟩ := hO1inv n hn
              rw [hβc i hi]; exact hr.live _ (hle _ (List.getElem_mem hi))
            · obtain ⟨i, hi, rfl⟩ := hO1inv n hn
              obtain ⟨j, hj, rfl⟩ := hO1inv m hm
              rw [hβc i hi, hβc j hj] at he
              have := hr.inj _ _ (hle _ (List.getElem_mem hi)) (hle _ (List.getElem_mem hj)) he
              rw [(List.getElem_inj hnd).1 this]
            · obtain ⟨i, hi, rfl⟩ := hO1inv n hn
              rw [hβc i hi]; exact (hr.sep b hb).2 _ (hle _ (List.getElem_mem hi))
            · obtain ⟨i, hi, rfl⟩ := hO1inv n (by rw [ho]; simp)
              rw [hO1 i hi (by omega)] at ho; injection ho with ho; subst ho
              obtain ⟨ob', h1, h2⟩ := hext_i i hi (by omega)
              rw [h2]
              exact Ob.tr_get (hr.obj _ _ h1) (hβc i hi) (fun cs _ i hi y h => h.tr (fun _ _ h => h) fun v x hv h => nm_leaf hν hv h) (fun sz xs _ u _ y h => h) fun es _ => ⟨fun e _ y h => h, fun e _ y h => h⟩
          have hsn : ∀ i (h : i < all.length) pv, snap (hideO le O) 6 all[i] = some pv → (all[i]).refs = [] := fun i hi pv hpv => by
            rw [List.eq_nil_iff_forall_not_mem]
            intro n hn
            have h1 := snap_refs 6 hpv n hn
            have h2 : n ∈ le := by
              have := List.all_eq_true.1 hA _ (List.getElem_mem hi)
              simpa using List.all_eq_true.1 this n hn
            exact h1 (hideO_in h2)
          have hargs' : ∀ i (_ : i < as.length), SR w S βc (resO ext []) as[i] (vals.getD i undef) := fun i hi => by
            have hi' : i < all.length := by omega
            have ha := hag i hi' hi
            unfold argC at ha
            split at ha
            · rename_i pv hpv
              injection ha with ha; rw [← ha]
              exact .p _ _ (snap_rel (hr.drop hhid) (fun _ h => h) 6 (.inl (hsn i hi' pv hpv)) ((h10 i hi').drop hhid) hpv)
            · split at ha
              · injection ha with ha; rw [← ha]
                exact (h10 i hi').tr (fun _ _ h => h) fun v x hv h => nm_leaf hν hv h
              · cases ha
          refine (hpc w S βc vals hrelc (by rw [h9, hal]) hargs').mono fun e w' ⟨x, S0, β0, he, hfr, hup, hnew, hXb, hfresh, hlen, hrel, hsr⟩ => ⟨x, he, ?_⟩
          have hlen' : ext'.length = le.length := by omega
          have hnames : new.map (·.1) = nms d fs.length := by rw [← e4]; exact newC_names0 d fs
          have hsub : ∀ n ∈ nms d fs.length, n ∈ nms d own := fun n hn => by
            obtain ⟨j, h, e⟩ := mem_nms.1 hn
            exact mem_nms.2 ⟨j, by omega, e⟩
          have hgm : ∀ n, n ∈ gn ↔ ∃ i, ∃ h : i < le.length, i < ext'.length ∧ le[i] = n ∧ goneAt ext' i = true := fun n => by rw [← e3]; exact goneN_mem
          have hgi : ∀ i (h : i < le.length), le[i] ∈ gn → goneAt ext' i = true := fun i h hm => by
            obtain ⟨i', h', _, e, hg'⟩ := (hgm _).1 hm
            rw [(List.getElem_inj hnd).1 e] at hg'; exact hg'
          -- the names of the caller
          let β' : Nat → Nat := fun n => if n ∈ nms d fs.length then β0 (F ((n - d) / 50000)) else β n
          have hβn : ∀ j, j < fs.length → β' (NM d j) = β0 (F j) := fun j hj => by
            have h1 : NM d j ∈ nms d fs.length := mem_nms.2 ⟨j, hj, rfl⟩
            have h2 : (NM d j - d) / 50000 = j := by simp only [NM]; omega
            simp only [β', if_pos h1, h2]
          have hβo : ∀ n, n ∉ nms d fs.length → β' n = β n := fun n hn => by simp only [β', if_neg hn]
          generalize hOF : setL new (setL upd (killO (gn ++ nms d own) O)) = OF
          have hOn : ∀ j (h : j < fs.length), OF (NM d j) = some fs[j] := fun j h => by
            rw [← hOF]
            refine setL_hit (by rw [hnames]; exact nms_nodup d _) ?_
            rw [← e4]; have := newC_mem d 0 fs j h; rwa [Nat.zero_add] at this
          have hlin : ∀ i (h : i < le.length), goneAt ext' i = false → le[i] ∉ nms d own := fun i h hg hm => by
            have := hgi i h (hgn _ hm (List.getElem_mem h))
            rw [this] at hg; cases hg
          have hOl : ∀ i (h : i < le.length) (h' : i < ext'.length), goneAt ext' i = false → OF le[i] = some (ext'[i].tr (nmBy (nmG d le ext' fs.length))) := fun i h h' hg => by
            rw [← hOF, setL_miss (by rw [hnames]; exact fun hm => hlin i h hg (hsub _ hm))]
            refine setL_hit (by rw [← e2]; exact updG_nodup hnd) ?_
            rw [← e2]; exact updG_mem h h' hg
          have hOo : ∀ n, n ∉ le → n ∉ nms d own → OF n = (O n).map (Ob.tr (killL (gn ++ nms d own))) := fun n h h' => by
            rw [← hOF, setL_miss (by rw [hnames]; exact fun hm => h' (hsub _ hm)), setL_miss (by
              rw [← e2]; intro hm
              obtain ⟨i, hi, _, e, _⟩ := updG_sub hm
              exact h (e ▸ List.getElem_mem hi))]
            have hk : (gn ++ nms d own).contains n = false := by
              rw [List.contains_eq_mem]
              simp only [List.mem_append, decide_eq_false_iff_not, not_or]
              refine ⟨fun hm => ?_, h'⟩
              obtain ⟨i, hi, _, e, _⟩ := (hgm n).1 hm
              exact h (e ▸ List.getElem_mem hi)
            simp only [killO, hk, Bool.false_eq_true, if_false]
          have hcasesO : ∀ n, OF n ≠ none → (∃ j, j < fs.length ∧ n = NM d j) ∨ (n ∉ nms d fs.length ∧ n ∉ gn ∧ O n ≠ none ∧ ((∃ i, ∃ h : i < le.length, le[i] = n ∧ goneAt ext' i = false) ∨ (n ∉ le ∧ n ∉ nms d own))) := fun n hn => by
            by_cases h : n ∈ nms d fs.length
            · exact .inl (mem_nms.1 h)
            · refine .inr ⟨h, ?_⟩
              have hk : n ∉ gn ++ nms d own ∨ n ∈ upd.map (·.1) := by
                by_cases hu : n ∈ upd.map (·.1)
                · exact .inr hu
                · left; intro hm
                  rw [← hOF, setL_miss (by rw [hnames]; exact h), setL_miss hu] at hn
                  have : (gn ++ nms d own).contains n = true := by rw [List.contains_eq_mem]; simpa using hm
                  simp only [killO, this, if_true] at hn
                  exact hn rfl
              by_cases hl : n ∈ le
              · obtain ⟨i, hi, e⟩ := List.getElem_of_mem hl
                subst e
                have hg : goneAt ext' i = false := by
                  rcases hk with hk | hu
                  · cases hg : goneAt ext' i with
                    | false => rfl
                    | true => exact absurd (List.mem_append.2 (.inl ((hgm _).2 ⟨i, hi, by omega, rfl, hg⟩))) hk
                  · rw [← e2] at hu
                    obtain ⟨i', hi', _, e, hg'⟩ := updG_sub hu
                    rw [← (List.getElem_inj hnd).1 e]; exact hg'
                exact ⟨fun hm => (by rw [hgi i hi hm] at hg; cases hg), hle _ hl, .inl ⟨i, hi, rfl, hg⟩⟩
              · rcases hk with hk | hu
                · simp only [List.mem_append, not_or] at hk
                  refine ⟨hk.1, ?_, .inr ⟨hl, hk.2⟩⟩
                  rw [hOo n hl hk.2] at hn
                  intro h0; rw [h0] at hn; exact hn rfl
                · rw [← e2] at hu
                  obtain ⟨i', hi', _, e, _⟩ := updG_sub hu
                  exact absurd (e ▸ List.getElem_mem hi') hl
          have hfr' : Fr w w' fun b => ∃ n, n ∈ le ∧ β n = b := hfr.mono fun b _ ⟨n, hn, e⟩ => by
            obtain ⟨i, hi, rfl⟩ := hO1inv n hn
            rw [hβc i hi] at e
            exact ⟨_, List.getElem_mem hi, e⟩
          let S' : Nat → Prop := fun b => S b ∨ (w.heap.size ≤ b ∧ S0 b) ∨ (∃ n, n ∈ gn ∧ β n = b ∧ S0 b)
          have hgle : ∀ n, n ∈ gn → n ∈ le := fun n hm => by
            obtain ⟨i, hi, _, e, _⟩ := (hgm n).1 hm
            exact e ▸ List.getElem_mem hi
          have hF0 : ∀ j, j < fs.length → resG ext' fs (F j) ≠ none := fun j hj => by rw [resG_F]; simp [hj]
          have hX0 : ∀ i (h : i < ext'.length), goneAt ext' i = false → resG ext' fs (X i) = some ext'[i] := fun i h hg => by rw [resG_X (by omega) hg]; simp [h]
          have hblk : ∀ b, S b → w'.heap[b]? = w.heap[b]? := fun b hb => hfr'.block b (hr.sep b hb).1 fun ⟨n, hn, e⟩ => (hr.sep b hb).2 n (hle n hn) e
          have hblo : ∀ n, O n ≠ none → n ∉ le → w'.heap[β n]? = w.heap[β n]? := fun n hn hnl => hfr'.block _ (hr.live n hn) fun ⟨m, hm, e⟩ => hnl (hr.inj m n (hle m hm) hn e ▸ hm)
          -- what is new lies apart from what the caller has
          have hFo : ∀ j, j < fs.length → ∀ n, n ∉ gn → O n ≠ none → β0 (F j) ≠ β n := fun j hj n hng hn e => by
            rcases hfresh j hj with h | ⟨i, hi, h⟩
            · have := hr.live n hn; omega
            · have hi' : i < le.length := by omega
              rw [hβc i hi'] at h
              have en := hr.inj _ _ (hle _ (List.getElem_mem hi')) hn (h.symm.trans e)
              subst en
              have hg : goneAt ext' i = false := by
                cases hg : goneAt ext' i with
                | false => rfl
                | true => exact absurd ((hgm _).2 ⟨i, hi', by omega, rfl, hg⟩) hng
              have hx : β0 (X i) = β0 (F j) := by rw [hXb i hi, hβc i hi', h]
              have := hrel.inj _ _ (by rw [hX0 i (by omega) hg]; simp) (hF0 j hj) hx
              simp only [F, X] at this; omega
          have hνC : ∀ m k, nmG d le ext' fs.length m = some k → (resG ext' fs m = none → OF k = none) ∧ ∀ ob, resG ext' fs m = some ob → OF k = none ∨ ∃ ob', OF k = some ob' ∧ likeO ob ob' ∧ β' k = β0 m := fun m k h => by
            unfold nmG at h
            split at h
            · rename_i hm
              split at h
              · rename_i hj
                injection h with h; subst h
                have em : m = F (m - 2000000) := by simp only [F]; omega
                refine ⟨fun hn => absurd hn (by rw [em]; exact hF0 _ hj), fun ob hob => .inr ⟨fs[m - 2000000], hOn _ hj, ?_, ?_⟩⟩
                · rw [em, resG_F] at hob; simp [hj] at hob; rw [← hob]; exact likeO_refl _
                · rw [hβn _ hj, ← em]
              · cases h
            · split at h
              · rename_i hm2 hm1
                split at h
                · cases h
                · rename_i hgx
                  obtain ⟨hi, hk⟩ := List.getElem?_eq_some_iff.1 h
                  have em : m = X (m - 1000000) := by simp only [X]; omega
                  have hg : goneAt ext' (m - 1000000) = false := by simpa using hgx
                  subst hk
                  refine ⟨fun hn => absurd hn (by rw [em, hX0 _ (by omega) hg]; simp), fun ob hob => .inr ⟨_, hOl _ hi (by omega) hg, ?_, ?_⟩⟩
                  · rw [em, hX0 _ (by omega) hg] at hob; injection hob with hob; rw [← hob]; exact likeO_tr _ _
                  · rw [hβo _ (fun hm => hlin _ hi hg (hsub _ hm)), ← hβc _ hi, ← hXb _ (by omega), ← em]
              · cases h
          have hS0 : ∀ b, S0 b → S' b := fun b hb => by
            rcases hnew b hb with g | g | ⟨i, hi, e⟩
            · exact .inl g
            · exact .inr (.inl ⟨g, hb⟩)
            · have hi' : i < le.length := by omega
              rw [hβc i hi'] at e
              cases hg : goneAt ext' i with
              | true => exact .inr (.inr ⟨le[i], (hgm _).2 ⟨i, hi', by omega, rfl, hg⟩, e.symm, hb⟩)
              | false => exact absurd (by rw [hXb i hi, hβc i hi', e]) ((hrel.sep b hb).2 (X i) (by rw [hX0 i (by omega) hg]; simp))
          have upP : ∀ (u : PV) y, PR w' S0 u y → PR w' S' u y := fun u y hp => hp.mono fun b hb => ⟨hS0 b hb, rfl⟩
          have up : ∀ u y, SR w' S0 β0 (resG ext' fs) u y → SR w' S' β' OF (u.tr (nmBy (nmG d le ext' fs.length))) y := fun u y hs => hs.tr upP fun v x hv hs => nm_leaf hνC hv hs
          have upO : ∀ n ob n', OR w' S0 β0 (resG ext' fs) n ob → β' n' = β0 n → OR w' S' β' OF n' (ob.tr (nmBy (nmG d le ext' fs.length))) := fun n ob n' hob hb =>
            Ob.tr_get hob hb (fun cs e i hi y hs => up _ _ hs) (fun sz xs e u hu y hp => upP u y hp) fun es e => ⟨fun q hq y hp => upP _ y hp, fun q hq y hp => upP _ y hp⟩
          have hprO : ∀ (u : PV) y, PR w S u y → PR w' S' u y := fun u y hp => hp.mono fun b hb => ⟨.inl hb, hblk b hb⟩
          have lift : ∀ u y, SR w S β O u y → SR w' S' β' OF (u.tr (killL (gn ++ nms d own))) y := fun u y hs => by
            refine hs.tr hprO fun v x hv h => ?_
            obtain ⟨m, hm⟩ := isRef_refs hv
            by_cases hk : m ∈ gn ++ nms d own
            · have hc : (gn ++ nms d own).contains m = true := by rw [List.contains_eq_mem]; simpa using hk
              have : killL (gn ++ nms d own) v = .junk := by
                cases v <;> simp only [isRef] at hv <;> first | (cases hv; done) | skip
                all_goals (simp only [SV.refs, List.cons.injEq, and_true] at hm; subst hm; simp only [killL, hc, if_true])
              rw [this]; exact .junk _
            · have hc : (gn ++ nms d own).contains m = false := by rw [List.contains_eq_mem]; simpa using hk
              have : killL (gn ++ nms d own) v = v := by
                cases v <;> simp only [isRef] at hv <;> first | (cases hv; done) | skip
                all_goals (simp only [SV.refs, List.cons.injEq, and_true] at hm; subst hm; simp only [killL, hc, Bool.false_eq_true, if_false])
              rw [this]
              simp only [List.mem_append, not_or] at hk
              refine h.mono (fun b hb => ⟨.inl hb, hblk b hb⟩) fun n hn => ?_
              rw [hm] at hn
              simp only [List.mem_singleton] at hn
              subst hn
              have hβ : β' n = β n := hβo n fun hm => hk.2 (hsub _ hm)
              by_cases hl : n ∈ le
              · obtain ⟨i, hi, e⟩ := List.getElem_of_mem hl
                subst e
                have hg : goneAt ext' i = false := by
                  cases hg : goneAt ext' i with
                  | false => rfl
                  | true => exact absurd ((hgm _).2 ⟨i, hi, by omega, rfl, hg⟩) hk.1
                obtain ⟨ob, g1, g2⟩ := hext_i i hi (by omega)
                refine .inr ⟨ob, _, g1, hOl i hi (by omega) hg, ?_, hβ, hfr'.same _ (hr.live _ (by rw [g1]; simp))⟩
                rcases hlk i (by omega) (by omega) with h5 | h5
                · rw [h5] at hg; cases hg
                · rw [g2] at h5
                  exact likeO_trans_tr h5
              · have e := hOo n hl hk.2
                cases ho : O n with
                | none => exact .inl (by rw [e, ho]; rfl)
                | some ob => exact .inr ⟨ob, ob.tr (killL (gn ++ nms d own)), rfl, by rw [e, ho]; rfl, likeO_tr _ _, hβ, hfr'.same _ (hr.live n (by rw [ho]; simp))⟩
          refine ⟨S', β', ⟨hfr'.mono fun b _ ⟨n, hn, e⟩ => ⟨n, hle n hn, e⟩, fun b hb => .inl hb, fun b hb => ?_, fun i => ?_, fun n hn hlt => ?_⟩, ⟨fun n hn => ?_, fun n m hn hm he => ?_, fun b hb => ⟨?_, fun n hn => ?_⟩, fun n ob ho => ?_⟩, lift, ?_⟩
          · rcases hb with h | h | ⟨n, hn, e, _⟩
            · exact .inl h
            · exact .inr (.inr ⟨h.1, (hrel.sep b h.2).1⟩)
            · exact .inr (.inl ⟨n, hle n (hgle n hn), e⟩)
          · refine hβo _ fun hm => ?_
            obtain ⟨j, hj, e⟩ := mem_nms.1 hm
            have := NM_lt hd (show j < 15 by omega)
            simp only [X] at e; omega
          · rcases hcasesO n hn with ⟨j, hj, rfl⟩ | ⟨h1, _, h2, _⟩
            · rw [hβn j hj] at hlt ⊢
              rcases hfresh j hj with h | ⟨i, hi, h⟩
              · omega
              · have hi' : i < le.length := by omega
                exact ⟨le[i], hle _ (List.getElem_mem hi'), by rw [h, hβc i hi']⟩
            · exact ⟨n, h2, hβo n h1⟩
          · rcases hcasesO n hn with ⟨j, hj, rfl⟩ | ⟨h1, _, h2, _⟩
            · rw [hβn j hj]; exact hrel.live _ (hF0 j hj)
            · rw [hβo n h1]; exact Nat.lt_of_lt_of_le (hr.live n h2) hfr.size
          · rcases hcasesO n hn with ⟨j, hj, rfl⟩ | ⟨h1, h1', h2, _⟩ <;> rcases hcasesO m hm with ⟨k, hk, rfl⟩ | ⟨h3, h3', h4, _⟩
            · rw [hβn j hj, hβn k hk] at he
              have := hrel.inj _ _ (hF0 j hj) (hF0 k hk) he
              simp only [F] at this
              rw [show j = k by omega]
            · rw [hβn j hj, hβo m h3] at he
              exact absurd he (hFo j hj m h3' h4)
            · rw [hβo n h1, hβn k hk] at he
              exact absurd he.symm (hFo k hk n h1' h2)
            · rw [hβo n h1, hβo m h3] at he; exact hr.inj n m h2 h4 he
          · rcases hb with h | h | ⟨_, _, _, h⟩
            · exact Nat.lt_of_lt_of_le (hr.sep b h).1 hfr.size
            · exact (hrel.sep b h.2).1
            · exact (hrel.sep b h).1
          · rcases hcasesO n hn with ⟨j, hj, rfl⟩ | ⟨h1, h1', h2, _⟩
            · rw [hβn j hj]
              rcases hb with h | h | ⟨_, _, _, h⟩
              · intro e
                rcases hfresh j hj with h5 | ⟨i, hi, h5⟩
                · have := (hr.sep b h).1; omega
                · have hi' : i < le.length := by omega
                  rw [hβc i hi'] at h5
                  exact (hr.sep b h).2 _ (hle _ (List.getElem_mem hi')) (h5.symm.trans e)
              · exact (hrel.sep b h.2).2 _ (hF0 j hj)
              · exact (hrel.sep b h).2 _ (hF0 j hj)
            · rw [hβo n h1]
              rcases hb with h | h | ⟨m, hm, e, _⟩
              · exact (hr.sep b h).2 n h2
              · have := hr.live n h2; omega
              · intro e'
                have := hr.inj n m h2 (hle m (hgle m hm)) (e'.trans e.symm)
                exact h1' (this ▸ hm)
          · rcases hcasesO n (by rw [ho]; simp) with ⟨j, hj, rfl⟩ | ⟨h1, h1', h2, ⟨i, hi, e, hg⟩ | ⟨hl, hn⟩⟩
            · rw [hOn j hj] at ho; injection ho with ho; subst ho
              have hpl : plainOb fs[j] = true := List.all_eq_true.1 hplain _ (List.getElem_mem hj)
              have := upO (F j) fs[j] (NM d j) (hrel.obj _ _ (by rw [resG_F]; simp [hj])) (hβn j hj)
              rwa [plain_tr hpl] at this
            · subst e
              rw [hOl i hi (by omega) hg] at ho; injection ho with ho; subst ho
              refine upO (X i) ext'[i] le[i] (hrel.obj _ _ (hX0 i (by omega) hg)) ?_
              rw [hβo _ h1, ← hβc i hi, hXb i (by omega)]
            · rw [hOo n hl hn] at ho
              cases hob : O n with
              | none => exact absurd hob h2
              | some ob0 =>
                rw [hob] at ho
                simp only [Option.map_some, Option.some.injEq] at ho
                subst ho
                have hb0 := hr.obj n ob0 hob
                have hb2 := hblo n h2 hl
                have hβ := hβo n h1
                cases ob0 with
                | box cs =>
                  obtain ⟨c, ty, g1, g2, g3⟩ := hb0
                  exact ⟨c, ty, by rw [hβ, hb2]; exact g1, by rw [trL_length]; exact g2, fun i hi => by rw [trL_get]; exact lift _ _ (g3 i _)⟩
                | arr sz xs =>
                  obtain ⟨c, ty, g1, g2, g3, g4⟩ := hb0
                  exact ⟨c, ty, by rw [hβ, hb2]; exact g1, g2, g3, fun i hi => hprO _ _ (g4 i hi)⟩
                | map es =>
                  obtain ⟨en, ck, g1, g2, g3, g4⟩ := hb0
                  exact ⟨en, ck, by rw [hβ, hb2]; exact g1, g2, fun i hi => hprO _ _ (g3 i hi), fun i hi => hprO _ _ (g4 i hi)⟩
          · rw [← e1]; exact up r x hsr
        · cases hc
      · cases hc
    · cases hc
  · cases hc
end
end Go.Proofs.YtpobnchalcokoaaDoor.Pam
