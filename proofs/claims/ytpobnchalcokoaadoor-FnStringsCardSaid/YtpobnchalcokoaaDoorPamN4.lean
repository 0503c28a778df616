/- A part of the proof that stands in this folder: a small machine whose steps are shown to be the steps of the model, or walks of functions by it. No condition of its own. -/
import Derived.Test.YtpobnchalcokoaaDoorPamN3
set_option linter.unusedVariables false
set_option linter.unusedSimpArgs false
namespace Go.Proofs.YtpobnchalcokoaaDoor.Pam
open Go

mutual
theorem tr_id {f : SV → SV} : ∀ (v : SV), v.refs = [] → v.tr f = v
  | .ag cs, h => by simp only [SV.tr]; rw [trL_id cs (by simpa [SV.refs] using h)]
  | .tp cs, h => by simp only [SV.tr]; rw [trL_id cs (by simpa [SV.refs] using h)]
  | .cl g a b, h => by
    simp only [SV.refs, List.append_eq_nil_iff] at h
    simp only [SV.tr]; rw [trL_id a h.1, trL_id b h.2]
  | .p v, _ => rfl
  | .un, _ => rfl
  | .junk, _ => rfl
  | .bx _ _, h => by simp [SV.refs] at h
  | .ar _, h => by simp [SV.refs] at h
  | .sub _ _ _, h => by simp [SV.refs] at h
  | .el _ _ _, h => by simp [SV.refs] at h
  | .mp _, h => by simp [SV.refs] at h
theorem trL_id {f : SV → SV} : ∀ (cs : List SV), SV.refsL cs = [] → SV.trL f cs = cs
  | [], _ => rfl
  | c :: r, h => by
    simp only [SV.refsL, List.append_eq_nil_iff] at h
    simp only [SV.trL]; rw [tr_id c h.1, trL_id r h.2]
end
theorem plain_tr {o : Ob} (h : plainOb o = true) (f : SV → SV) : o.tr f = o := by
  cases o with
  | box cs => simp only [plainOb, List.isEmpty_iff] at h; simp only [Ob.tr]; rw [trL_id cs h]
  | _ => rfl
theorem findIdx_le {le : List Nat} {m j : Nat} (h : le.findIdx? (· == m) = some j) : ∃ hj : j < le.length, le[j] = m := by
  obtain ⟨h1, h2, _⟩ := List.findIdx?_eq_some_iff_getElem.1 h
  exact ⟨h1, by simpa using h2⟩

section
variable {P : Program} {w w' w1 : World} {S S' S2 : Nat → Prop} {β β' : Nat → Nat} {O O' : Objs} {σ σ' : Env} {a : Act} {o : Oper} {v : SV} {ann : Nat → Option Ann} {Γ : Gam} {tmps : Array Value} {K : Act → World → Prop} {Q : Exit → Act → World → Prop}

def CallOut (w w' : World) (S : Nat → Prop) (β : Nat → Nat) (O : Objs) (le : List Nat) (upd new : List (Nat × Ob)) (v : SV) (x : Value) : Prop :=
  ∃ S' β', Fr w w' (fun b => ∃ n, n ∈ le ∧ β n = b) ∧ (∀ b, S b → S' b) ∧ (∀ b, S' b → S b ∨ (w.heap.size ≤ b ∧ b < w'.heap.size)) ∧ (∀ n, n ∉ new.map (·.1) → β' n = β n) ∧ (∀ n ∈ new.map (·.1), w.heap.size ≤ β' n) ∧
    Rel w' S' β' (setL new (setL upd O)) ∧ (∀ u y, SR w S β O u y → (∀ n ∈ u.refs, n ∉ new.map (·.1)) → SR w' S' β' (setL new (setL upd O)) u y) ∧ SR w' S' β' (setL new (setL upd O)) v x

theorem resO_X {ext fs : List Ob} {i : Nat} (h : i < 1000000) : resO ext fs (X i) = ext[i]? := by
  have h1 : ¬ 2000000 ≤ X i := by simp only [X]; omega
  have h2 : 1000000 ≤ X i := by simp only [X]; omega
  have h3 : X i - 1000000 = i := by simp only [X]; omega
  unfold resO; rw [if_neg h1, if_pos h2, h3]
theorem resO_F {ext fs : List Ob} {j : Nat} : resO ext fs (F j) = fs[j]? := by
  have h1 : 2000000 ≤ F j := by simp only [F]; omega
  have h3 : F j - 2000000 = j := by simp only [F]; omega
  unfold resO; rw [if_pos h1, h3]
theorem resO_inv {ext fs : List Ob} {n : Nat} (h : resO ext fs n ≠ none) : (∃ i, i < ext.length ∧ n = X i ∧ n < 2000000) ∨ ∃ j, j < fs.length ∧ n = F j := by
  unfold resO at h
  split at h
  · rename_i h2
    refine .inr ⟨n - 2000000, ?_, by simp only [F]; omega⟩
    rcases Nat.lt_or_ge (n - 2000000) fs.length with g | g
    · exact g
    · exact absurd (List.getElem?_eq_none g) h
  · split at h
    · refine .inl ⟨n - 1000000, ?_, by simp only [X]; omega, by omega⟩
      rcases Nat.lt_or_ge (n - 1000000) ext.length with g | g
      · exact g
      · exact absurd (List.getElem?_eq_none g) h
    · exact absurd rfl h

theorem Ob.tr_get {f : SV → SV} {ob : Ob} {w : World} {S : Nat → Prop} {β : Nat → Nat} {O : Objs} {n : Nat} {S' : Nat → Prop} {β' : Nat → Nat} {O' : Objs} {n' : Nat} (h : OR w S β O n ob) (hβ : β' n' = β n)
    (hb : ∀ cs, ob = .box cs → ∀ i (hi : i < cs.length) y, SR w S β O cs[i] y → SR w S' β' O' (cs[i].tr f) y) (hp : ∀ sz xs, ob = .arr sz xs → ∀ u ∈ flat xs, ∀ y, PR w S u y → PR w S' u y)
    (hm : ∀ es, ob = .map es → (∀ e ∈ es, ∀ y, PR w S e.1 y → PR w S' e.1 y) ∧ (∀ e ∈ es, ∀ y, PR w S e.2 y → PR w S' e.2 y)) : OR w S' β' O' n' (ob.tr f) := by
  cases ob with
  | box cs => obtain ⟨c, ty, h1, h2, h3⟩ := h; exact ⟨c, ty, by rw [hβ]; exact h1, by rw [trL_length]; exact h2, fun i hi => by rw [trL_get]; exact hb cs rfl i _ _ (h3 i _)⟩
  | arr sz xs => obtain ⟨c, ty, h1, h2, h3, h4⟩ := h; exact ⟨c, ty, by rw [hβ]; exact h1, h2, h3, fun i hi => hp sz xs rfl _ (List.getElem_mem hi) _ (h4 i hi)⟩
  | map es => obtain ⟨en, ck, h1, h2, h3, h4⟩ := h; exact ⟨en, ck, by rw [hβ]; exact h1, h2, fun i hi => (hm es rfl).1 _ (List.getElem_mem hi) _ (h3 i hi), fun i hi => (hm es rfl).2 _ (List.getElem_mem hi) _ (h4 i hi)⟩

theorem likeL_gone : ∀ {a b : List Ob}, likeL a b = true → ∀ i (h : i < b.length), gone b[i] = false
  | [], [], _, i, h => by simp at h
  | [], _ :: _, h, _, _ => by simp [likeL] at h
  | _ :: _, [], h, _, _ => by simp [likeL] at h
  | x :: r, y :: q, h, i, hi => by
    simp only [likeL, Bool.and_eq_true] at h
    cases i with
    | zero =>
      have h1 := h.1
      cases y with
      | box cs =>
        cases cs with
        | nil => cases x <;> simp [likeB] at h1
        | cons c cs => rfl
      | arr _ _ => rfl
      | map _ => rfl
    | succ i => exact likeL_gone h.2 i (by simpa using hi)
theorem resG_eq {ext fs : List Ob} (h : ∀ i (hi : i < ext.length), gone ext[i] = false) : resG ext fs = resO ext fs := by
  funext n
  unfold resG resO
  split
  · rfl
  · split
    · rcases Nat.lt_or_ge (n - 1000000) ext.length with g | g
      · simp only [List.getElem?_eq_getElem g, liveO, h _ g]; rfl
      · simp only [List.getElem?_eq_none g, liveO]
    · rfl
/-- A CALL WITH OBJECTS LENT AND NEW OBJECTS KEPT. -/
theorem call_core (hΓ : GS P Γ) (hr : Rel w S β O) {fv : SV} {xf : Value} (hf : SR w S β O fv xf) {args : List SV} {xs : Array Value} (hxs : xs.size = args.length) (hargs : ∀ i (_ : i < args.length), SR w S β O args[i] (xs.getD i undef))
    {d own : Nat} {le : List Nat} (hd : d < 50000) (hown : own ≤ 15) (hle : ∀ n ∈ le, O n ≠ none) (hnd : le.Nodup) (hll : le.length ≤ 1000)
    (hfree : ∀ n ∈ nms d own, O n = none) (hbox : ∀ m cs, O m = some (.box cs) → ∀ n ∈ nms d own, n ∉ SV.refsL cs)
    {upd new : List (Nat × Ob)} (hc : callC Γ O d own le fv args = some (v, upd, new)) :
    ∃ g va vc, xf = .func (.func g) va vc ∧ callable P g ∧ (∀ n ∈ new.map (·.1), n ∈ nms d own) ∧ Calls P g (va ++ xs ++ vc) w fun e w' => ∃ x, e = .returned x ∧ CallOut w w' S β O le upd new v x := by
  unfold callC at hc
  split at hc
  · rename_i g p q hcal
    obtain ⟨va, vc, hfv, h1, h2, h3, h4⟩ := callee_rel hf hcal
    obtain ⟨h7, h8⟩ := append_rel h1 hxs h3 hargs
    obtain ⟨h9, h10⟩ := append_rel h7 h2 h8 h4
    split at hc
    · rename_i as ext has hext
      split at hc
      · rename_i r ext' fs hg
        split at hc
        · rename_i hcond
          obtain ⟨hfl, hlike, hplain, hsc⟩ := hcond
          injection hc with hc
          injection hc with e1 e2; injection e2 with e2 e3
          generalize hall : p ++ args ++ q = all at *
          generalize hvals : va ++ xs ++ vc = vals at *
          obtain ⟨hcl, hpc⟩ := hΓ _ _ _ _ _ _ hg
          obtain ⟨hal, hag⟩ := mapM_some has
          obtain ⟨hel, heg⟩ := mapM_some hext
          obtain ⟨hll', hlk⟩ := likeL_get hlike
          have hnames : new.map (·.1) = nms d fs.length := by rw [← e3]; exact newC_names0 d fs
          have hnew_own : ∀ n ∈ new.map (·.1), n ∈ nms d own := fun n hn => by
            rw [hnames, mem_nms] at hn
            obtain ⟨j, h, e⟩ := hn
            exact mem_nms.2 ⟨j, by omega, e⟩
          refine ⟨g, va, vc, hfv, hcl, hnew_own, ?_⟩
          rw [hvals]
          have hext_i : ∀ i (h : i < le.length) (h' : i < ext.length), ∃ ob, O le[i] = some ob ∧ ext[i] = ob.tr (nmBy (toX le)) := fun i h h' => by
            have := heg i h h'
            cases ho : O le[i] with
            | none => simp [ho] at this
            | some ob => simp [ho] at this; exact ⟨ob, rfl, this.symm⟩
          have hleF : ∀ m k, toX le m = some k → ∃ i, ∃ h : i < le.length, le[i] = m ∧ k = X i := fun m k h => by
            unfold toX at h
            cases hi : le.findIdx? (· == m) with
            | none => simp [hi] at h
            | some i => simp [hi] at h; obtain ⟨h1, h2⟩ := findIdx_le hi; exact ⟨i, h1, h2, h.symm⟩
          let βc : Nat → Nat := fun n => β (le.getD (n - 1000000) 0)
          have hβc : ∀ i (h : i < le.length), βc (X i) = β le[i] := fun i h => by
            have : X i - 1000000 = i := by simp only [X]; omega
            simp [βc, this, h]
          have hO1 : ∀ i (h : i < le.length) (h' : i < ext.length), resO ext [] (X i) = some ext[i] := fun i h h' => by rw [resO_X (by omega)]; simp [h']
          have hO1inv : ∀ n, resO ext [] n ≠ none → ∃ i, ∃ h : i < le.length, n = X i := fun n hn => by
            rcases resO_inv hn with ⟨i, h, e, _⟩ | ⟨j, h, _⟩
            · exact ⟨i, by omega, e⟩
            · simp at h
          have hν : ∀ m k, toX le m = some k → (O m = none → resO ext [] k = none) ∧ ∀ ob, O m = some ob → resO ext [] k = none ∨ ∃ ob', resO ext [] k = some ob' ∧ likeO ob ob' ∧ βc k = β m := fun m k h => by
            obtain ⟨i, hi, e, ek⟩ := hleF m k h
            subst e; subst ek
            refine ⟨fun hn => absurd hn (hle _ (List.getElem_mem hi)), fun ob hob => .inr ⟨ext[i]'(by omega), hO1 i hi (by omega), ?_, hβc i hi⟩⟩
            obtain ⟨ob', h1, h2⟩ := hext_i i hi (by omega)
            rw [hob] at h1; injection h1 with h1; subst h1
            rw [h2]; exact likeO_tr _ _
          have hhid : ∀ n, hideO le O n = O n ∨ hideO le O n = none := hideO_or le O
          -- what the callee may lean on
          have main : ∀ (S2 : Nat → Prop), (∀ b, S b → S2 b) → (∀ b, S2 b → S b ∨ ∃ n, hideO le O n ≠ none ∧ β n = b) → (∀ i (h : i < all.length) pv, snap (hideO le O) 6 all[i] = some pv → (all[i]).refs = [] ∨ ∀ n, hideO le O n ≠ none → S2 (β n)) →
              ((∀ b, S2 b → S b) ∨ (r.scal && (ext'.all Ob.scal && fs.all Ob.scal)) = true) → Calls P g vals w fun e w' => ∃ x, e = .returned x ∧ CallOut w w' S β O le upd new v x := by
            intro S2 hS2 hS2' hsn hback
            have hhl : ∀ n, hideO le O n ≠ none → n ∉ le ∧ O n ≠ none := fun n hn => ⟨fun h => hn (hideO_in h), by rcases hhid n with e | e; exact e ▸ hn; exact absurd e hn⟩
            have hS2b : ∀ b, S2 b → b < w.heap.size ∧ ∀ n ∈ le, β n ≠ b := fun b hb => by
              rcases hS2' b hb with h | ⟨n, h, e⟩
              · exact ⟨(hr.sep b h).1, fun n hn => (hr.sep b h).2 n (hle n hn)⟩
              · obtain ⟨g1, g2⟩ := hhl n h
                exact ⟨e ▸ hr.live n g2, fun m hm e' => g1 (hr.inj n m g2 (hle m hm) (e.trans e'.symm) ▸ hm)⟩
            have hpr : ∀ (u : PV) y, PR w S u y → PR w S2 u y := fun u y h => h.mono fun b hb => ⟨hS2 b hb, rfl⟩
            have hrelc : Rel w S2 βc (resO ext []) := by
              refine ⟨fun n hn => ?_, fun n m hn hm he => ?_, fun b hb => ⟨(hS2b b hb).1, fun n hn => ?_⟩, fun n ob ho => ?_⟩
              · obtain ⟨i, hi, rfl⟩ := hO1inv n hn
                rw [hβc i hi]; exact hr.live _ (hle _ (List.getElem_mem hi))
              · obtain ⟨i, hi, rfl⟩ := hO1inv n hn
                obtain ⟨j, hj, rfl⟩ := hO1inv m hm
                rw [hβc i hi, hβc j hj] at he
                have := hr.inj _ _ (hle _ (List.getElem_mem hi)) (hle _ (List.getElem_mem hj)) he
                rw [(List.getElem_inj hnd).1 this]
              · obtain ⟨i, hi, rfl⟩ := hO1inv n hn
                rw [hβc i hi]; exact (hS2b b hb).2 _ (List.getElem_mem hi)
              · obtain ⟨i, hi, rfl⟩ := hO1inv n (by rw [ho]; simp)
                rw [hO1 i hi (by omega)] at ho; injection ho with ho; subst ho
                obtain ⟨ob', h1, h2⟩ := hext_i i hi (by omega)
                rw [h2]
                exact Ob.tr_get (hr.obj _ _ h1) (hβc i hi) (fun cs _ i hi y h => h.tr hpr fun v x hv h => nm_leaf hν hv h) (fun sz xs _ u _ y h => hpr u y h) fun es _ => ⟨fun e _ y h => hpr _ y h, fun e _ y h => hpr _ y h⟩
            have hargs' : ∀ i (_ : i < as.length), SR w S2 βc (resO ext []) as[i] (vals.getD i undef) := fun i hi => by
              have hi' : i < all.length := by omega
              have ha := hag i hi' hi
              unfold argC at ha
              split at ha
              · rename_i pv hpv
                injection ha with ha; rw [← ha]
                exact .p _ _ (snap_rel (hr.drop hhid) hS2 6 (hsn i hi' pv hpv) ((h10 i hi').drop hhid) hpv)
              · split at ha
                · injection ha with ha; rw [← ha]
                  exact (h10 i hi').tr hpr fun v x hv h => nm_leaf hν hv h
                · cases ha
            refine (hpc w S2 βc vals hrelc (by rw [h9, hal]) hargs').mono fun e w' ⟨x, S0, β0, he, hfr, hup, hnew, hXb, hfresh0, hlen, hrel, hsr⟩ => ⟨x, he, ?_⟩
            rw [resG_eq (likeL_gone hlike)] at hrel hsr
            have hfresh : ∀ j, j < fs.length → w.heap.size ≤ β0 (F j) := fun j hj => by
              rcases hfresh0 j hj with h | ⟨i, hi, e⟩
              · exact h
              · rw [← hXb i hi] at e
                have := hrel.inj (F j) (X i) (by rw [resO_F]; simp [hj]) (by rw [resO_X (by omega)]; simp [show i < ext'.length by omega]) e
                simp only [F, X] at this; omega
            -- the caller's view
            let β' : Nat → Nat := fun n => if n ∈ nms d fs.length then β0 (F ((n - d) / 50000)) else β n
            have hβn : ∀ j, j < fs.length → β' (NM d j) = β0 (F j) := fun j hj => by
              have h1 : NM d j ∈ nms d fs.length := mem_nms.2 ⟨j, hj, rfl⟩
              have h2 : (NM d j - d) / 50000 = j := by simp only [NM]; omega
              simp only [β', if_pos h1, h2]
            have hβo : ∀ n, n ∉ nms d fs.length → β' n = β n := fun n hn => by simp only [β', if_neg hn]
            have hsub : ∀ n ∈ nms d fs.length, n ∈ nms d own := fun n hn => hnew_own n (by rw [hnames]; exact hn)
            have halive : ∀ n, O n ≠ none → n ∉ nms d fs.length := fun n hn h => hn (hfree n (hsub n h))
            have hlen' : ext'.length = le.length := by omega
            have hupn : upd.map (·.1) = le := by rw [← e2, List.map_fst_zip]; simp [hlen']
            have hOn : ∀ j (h : j < fs.length), setL new (setL upd O) (NM d j) = some fs[j] := fun j h => by
              refine setL_hit (by rw [hnames]; exact nms_nodup d _) ?_
              rw [← e3]; have := newC_mem d 0 fs j h; rwa [Nat.zero_add] at this
            have hOl : ∀ i (h : i < le.length) (h' : i < ext'.length), setL new (setL upd O) le[i] = some (ext'[i].tr (nmBy (nmC d le fs.length))) := fun i h h' => by
              rw [setL_miss (by rw [hnames]; exact halive _ (hle _ (List.getElem_mem h)))]
              refine setL_hit (by rw [hupn]; exact hnd) ?_
              rw [← e2, List.mem_iff_getElem]
              exact ⟨i, by simp; omega, by simp⟩
            have hOo : ∀ n, n ∉ le → n ∉ nms d fs.length → setL new (setL upd O) n = O n := fun n h h' => by
              rw [setL_miss (by rw [hnames]; exact h'), setL_miss (by rw [hupn]; exact h)]
            have hfr' : Fr w w' fun b => ∃ n, n ∈ le ∧ β n = b := hfr.mono fun b _ ⟨n, hn, e⟩ => by
              obtain ⟨i, hi, rfl⟩ := hO1inv n hn
              rw [hβc i hi] at e
              exact ⟨_, List.getElem_mem hi, e⟩
            let S' : Nat → Prop := fun b => S b ∨ (w.heap.size ≤ b ∧ S0 b)
            have hF0 : ∀ j, j < fs.length → resO ext' fs (F j) ≠ none := fun j hj => by rw [resO_F]; simp [hj]
            have hX0 : ∀ i (h : i < ext'.length), resO ext' fs (X i) = some ext'[i] := fun i h => by rw [resO_X (by omega)]; simp [h]
            have hblk : ∀ b, S b → w'.heap[b]? = w.heap[b]? := fun b hb => hfr'.block b (hr.sep b hb).1 fun ⟨n, hn, e⟩ => (hr.sep b hb).2 n (hle n hn) e
            have hblo : ∀ n, O n ≠ none → n ∉ le → w'.heap[β n]? = w.heap[β n]? := fun n hn hnl => hfr'.block _ (hr.live n hn) fun ⟨m, hm, e⟩ => hnl (hr.inj m n (hle m hm) hn e ▸ hm)
            have hνC : ∀ m k, nmC d le fs.length m = some k → (resO ext' fs m = none → setL new (setL upd O) k = none) ∧ ∀ ob, resO ext' fs m = some ob → setL new (setL upd O) k = none ∨ ∃ ob', setL new (setL upd O) k = some ob' ∧ likeO ob ob' ∧ β' k = β0 m := fun m k h => by
              unfold nmC at h
              split at h
              · rename_i hm
                split at h
                · rename_i hj
                  injection h with h; subst h
                  have em : m = F (m - 2000000) := by simp only [F]; omega
                  refine ⟨fun hn => absurd hn (by rw [em]; exact hF0 _ hj), fun ob hob => .inr ⟨fs[m - 2000000], hOn _ hj, ?_, ?_⟩⟩
                  · rw [em, resO_F] at hob; simp [hj] at hob; rw [← hob]; exact likeO_refl _
                  · rw [hβn _ hj, ← em]
                · cases h
              · split at h
                · rename_i hm2 hm1
                  obtain ⟨hi, hk⟩ := List.getElem?_eq_some_iff.1 h
                  have em : m = X (m - 1000000) := by simp only [X]; omega
                  subst hk
                  refine ⟨fun hn => absurd hn (by rw [em, hX0 _ (by omega)]; simp), fun ob hob => .inr ⟨_, hOl _ hi (by omega), ?_, ?_⟩⟩
                  · rw [em, hX0 _ (by omega)] at hob; injection hob with hob; rw [← hob]; exact likeO_tr _ _
                  · rw [hβo _ (halive _ (hle _ (List.getElem_mem hi))), ← hβc _ hi, ← hXb _ (by omega), ← em]
                · cases h
            have hS0 : (∀ b, S0 b → S' b) ∨ (r.scal && (ext'.all Ob.scal && fs.all Ob.scal)) = true := hback.imp (fun h b hb => by
              rcases hnew b hb with g | g | ⟨i, hi, e⟩
              · exact .inl (h b g)
              · exact .inr ⟨g, hb⟩
              · exact absurd ((hXb i hi).trans e.symm) ((hrel.sep b hb).2 (X i) (by rw [hX0 i (by omega)]; simp))) id
            have upP : ∀ (u : PV) y, ((∀ b, S0 b → S' b) ∨ u.scal = true) → PR w' S0 u y → PR w' S' u y := fun u y h hp => h.elim (fun h => hp.mono fun b hb => ⟨h b hb, rfl⟩) fun h => hp.scal_any u h
            have up : ∀ u y, ((∀ b, S0 b → S' b) ∨ u.scal = true) → SR w' S0 β0 (resO ext' fs) u y → SR w' S' β' (setL new (setL upd O)) (u.tr (nmBy (nmC d le fs.length))) y := fun u y h hs => by
              rcases h with h | h
              · exact hs.tr (fun v x hp => upP v x (.inl h) hp) fun v x hv hs => nm_leaf hνC hv hs
              · exact hs.tr_scal (fun v x hv hp => upP v x (.inr hv) hp) (fun v x hv _ hs => nm_leaf hνC hv hs) h
            have upO : ∀ n ob n', ((∀ b, S0 b → S' b) ∨ ob.scal = true) → OR w' S0 β0 (resO ext' fs) n ob → β' n' = β0 n → OR w' S' β' (setL new (setL upd O)) n' (ob.tr (nmBy (nmC d le fs.length))) := fun n ob n' h hob hb => by
              refine Ob.tr_get hob hb (fun cs e i hi y hs => up _ _ (h.imp id fun h => ?_) hs) (fun sz xs e u hu y hp => upP u y (h.imp id fun h => ?_) hp) fun es e => ⟨fun q hq y hp => upP _ y (h.imp id fun h => ?_) hp, fun q hq y hp => upP _ y (h.imp id fun h => ?_) hp⟩
              · subst e; exact scalL_get (by simpa [Ob.scal] using h) hi
              · subst e; exact scal_flat (by simpa [Ob.scal] using h) u hu
              · subst e; simp only [Ob.scal, List.all_eq_true, Bool.and_eq_true] at h; exact (h q hq).1
              · subst e; simp only [Ob.scal, List.all_eq_true, Bool.and_eq_true] at h; exact (h q hq).2
            have lift : ∀ u y, SR w S β O u y → (∀ n ∈ u.refs, n ∉ nms d fs.length) → SR w' S' β' (setL new (setL upd O)) u y := fun u y hs hu => by
              refine hs.mono (fun b hb => ⟨.inl hb, hblk b hb⟩) fun n hn => ?_
              by_cases hl : n ∈ le
              · obtain ⟨i, hi, e⟩ := List.getElem_of_mem hl
                subst e
                obtain ⟨ob, g1, g2⟩ := hext_i i hi (by omega)
                refine .inr ⟨ob, _, g1, hOl i hi (by omega), ?_, hβo _ (hu _ hn), hfr'.same _ (hr.live _ (by rw [g1]; simp))⟩
                have := hlk i (by omega) (by omega)
                rw [g2] at this
                exact likeO_trans_tr this
              · have e := hOo n hl (hu n hn)
                cases ho : O n with
                | none => exact .inl (by rw [e, ho])
                | some ob => exact .inr ⟨ob, ob, rfl, by rw [e, ho], likeO_refl ob, hβo n (hu n hn), hfr'.same _ (hr.live n (by rw [ho]; simp))⟩
            have hcasesO : ∀ n, setL new (setL upd O) n ≠ none → (∃ j, j < fs.length ∧ n = NM d j) ∨ (n ∉ nms d fs.length ∧ O n ≠ none) := fun n hn => by
              by_cases h : n ∈ nms d fs.length
              · exact .inl (mem_nms.1 h)
              · refine .inr ⟨h, ?_⟩
                by_cases hl : n ∈ le
                · exact hle n hl
                · rw [hOo n hl h] at hn; exact hn
            refine ⟨S', β', hfr', fun b hb => .inl hb, fun b hb => hb.imp id fun h => ⟨h.1, (hrel.sep b h.2).1⟩, fun n hn => hβo n (by rw [← hnames]; exact hn), fun n hn => ?_, ?_, fun u y hs hu => lift u y hs (by rw [← hnames]; exact hu), ?_⟩
            · rw [hnames, mem_nms] at hn
              obtain ⟨j, hj, rfl⟩ := hn
              rw [hβn j hj]; exact hfresh j hj
            · refine ⟨fun n hn => ?_, fun n m hn hm he => ?_, fun b hb => ⟨?_, fun n hn => ?_⟩, fun n ob ho => ?_⟩
              · rcases hcasesO n hn with ⟨j, hj, rfl⟩ | ⟨h1, h2⟩
                · rw [hβn j hj]; exact hrel.live _ (hF0 j hj)
                · rw [hβo n h1]; exact Nat.lt_of_lt_of_le (hr.live n h2) hfr.size
              · rcases hcasesO n hn with ⟨j, hj, rfl⟩ | ⟨h1, h2⟩ <;> rcases hcasesO m hm with ⟨k, hk, rfl⟩ | ⟨h3, h4⟩
                · rw [hβn j hj, hβn k hk] at he
                  have := hrel.inj _ _ (hF0 j hj) (hF0 k hk) he
                  simp only [F] at this
                  rw [show j = k by omega]
                · rw [hβn j hj, hβo m h3] at he
                  have := hfresh j hj; have := hr.live m h4; omega
                · rw [hβo n h1, hβn k hk] at he
                  have := hfresh k hk; have := hr.live n h2; omega
                · rw [hβo n h1, hβo m h3] at he; exact hr.inj n m h2 h4 he
              · rcases hb with h | h
                · exact Nat.lt_of_lt_of_le (hr.sep b h).1 hfr.size
                · exact (hrel.sep b h.2).1
              · rcases hcasesO n hn with ⟨j, hj, rfl⟩ | ⟨h1, h2⟩
                · rw [hβn j hj]
                  rcases hb with h | h
                  · have := hfresh j hj; have := (hr.sep b h).1; omega
                  · exact (hrel.sep b h.2).2 _ (hF0 j hj)
                · rw [hβo n h1]
                  rcases hb with h | h
                  · exact (hr.sep b h).2 n h2
                  · have := hr.live n h2; omega
              · rcases hcasesO n (by rw [ho]; simp) with ⟨j, hj, rfl⟩ | ⟨h1, h2⟩
                · rw [hOn j hj] at ho; injection ho with ho; subst ho
                  have hpl : plainOb fs[j] = true := List.all_eq_true.1 hplain _ (List.getElem_mem hj)
                  have := upO (F j) fs[j] (NM d j) (hS0.imp id fun h => by
                    simp only [Bool.and_eq_true] at h
                    exact List.all_eq_true.1 h.2.2 _ (List.getElem_mem hj)) (hrel.obj _ _ (by rw [resO_F]; simp [hj])) (hβn j hj)
                  rwa [plain_tr hpl] at this
                · by_cases hl : n ∈ le
                  · obtain ⟨i, hi, e⟩ := List.getElem_of_mem hl
                    subst e
                    rw [hOl i hi (by omega)] at ho; injection ho with ho; subst ho
                    refine upO (X i) ext'[i] le[i] (hS0.imp id fun h => ?_) (hrel.obj _ _ (hX0 i (by omega))) ?_
                    · simp only [Bool.and_eq_true] at h
                      exact List.all_eq_true.1 h.2.1 _ (List.getElem_mem _)
                    · rw [hβo _ h1, ← hβc i hi, hXb i (by omega)]
                  · rw [hOo n hl h1] at ho
                    have hob := hr.obj n ob ho
                    have hb2 := hblo n h2 hl
                    cases ob with
                    | box cs =>
                      obtain ⟨c, ty, g1, g2, g3⟩ := hob
                      exact ⟨c, ty, by rw [hβo n h1, hb2]; exact g1, g2, fun i hi => lift _ _ (g3 i hi) fun k hk hkn => hbox n cs ho k (hsub k hkn) (refsL_mem hi hk)⟩
                    | arr sz xs =>
                      obtain ⟨c, ty, g1, g2, g3, g4⟩ := hob
                      exact ⟨c, ty, by rw [hβo n h1, hb2]; exact g1, g2, g3, fun i hi => (g4 i hi).mono fun b hb => ⟨.inl hb, hblk b hb⟩⟩
                    | map es =>
                      obtain ⟨en, ck, g1, g2, g3, g4⟩ := hob
                      exact ⟨en, ck, by rw [hβo n h1, hb2]; exact g1, g2, fun i hi => (g3 i hi).mono fun b hb => ⟨.inl hb, hblk b hb⟩, fun i hi => (g4 i hi).mono fun b hb => ⟨.inl hb, hblk b hb⟩⟩
            · rw [← e1]
              exact up r x (hS0.imp id fun h => by simp only [Bool.and_eq_true] at h; exact h.1) hsr
          rcases hsc with hA | hB
          · refine main S (fun _ h => h) (fun b h => .inl h) (fun i hi pv hpv => .inl ?_) (.inl fun _ h => h)
            rw [List.eq_nil_iff_forall_not_mem]
            intro n hn
            have h1 := snap_refs 6 hpv n hn
            have h2 : n ∈ le := by
              have := List.all_eq_true.1 hA _ (List.getElem_mem hi)
              simpa using List.all_eq_true.1 this n hn
            exact h1 (hideO_in h2)
          · exact main (fun b => S b ∨ ∃ n, hideO le O n ≠ none ∧ β n = b) (fun _ h => .inl h) (fun b h => h) (fun i hi pv hpv => .inr fun n hn => .inr ⟨n, hn, rfl⟩) (.inr hB)
        · cases hc
      · cases hc
    · cases hc
  · cases hc
end
end Go.Proofs.YtpobnchalcokoaaDoor.Pam
