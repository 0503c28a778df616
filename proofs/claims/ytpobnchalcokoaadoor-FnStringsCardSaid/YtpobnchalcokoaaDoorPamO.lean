/- A part of the proof that stands in this folder: a small machine whose steps are shown to be the steps of the model, or walks of functions by it. No condition of its own. -/
import Derived.Test.YtpobnchalcokoaaDoorPamN8
set_option linter.unusedVariables false
set_option linter.unusedSimpArgs false
namespace Go.Proofs.YtpobnchalcokoaaDoor.Pam
open Go

section
variable {P : Program} {w w' w1 : World} {S S' S2 : Nat → Prop} {β β' : Nat → Nat} {O O' : Objs} {σ σ' : Env} {a : Act} {o : Oper} {v : SV} {ann : Nat → Option Ann} {Γ : Gam} {tmps : Array Value} {K : Act → World → Prop} {Q : Exit → Act → World → Prop} {ops : Array Oper}

theorem simW (hΓ : GS P Γ) (hr : Rel w S β O) (hs : Slots w S β O σ a.tmps) {op : WOp} (hop : opOf P ann o = some (.w op)) (hdb5 : ∀ d, o.dst = some d → d < 50000) (hd : stepW Γ o.dst σ O op = some (v, σ', O'))
    (hK : WK w S β O O' σ' a o v K) : o.wp P a w K Q := by
  have hdb : ∀ d, o.dst = some d → d < 1000000 := fun d h => Nat.lt_trans (hdb5 d h) (by decide)
  unfold opOf at hop
  split at hop
  · cases h : odOf (by assumption) <;> simp [h] at hop
  · cases h : odOf (by assumption) <;> simp [h] at hop
  · split at hop <;> cases hop
  · rename_i t ho
    split at hop
    · cases h : tyZero P t with
      | none => simp [h] at hop
      | some z => simp [h] at hop; subst hop; exact sim_allocA hr hs ho h hdb hd hK
    · cases h : tyZero P t with
      | none => simp [h] at hop
      | some z => simp [h] at hop; subst hop; exact sim_alloc hr hs ho h hdb hd hK
  · rename_i t x ho
    split at hop
    · rename_i h1 h2
      injection hop with hop; injection hop with hop; subst hop
      exact sim_box hr hs ho h2 hdb hd hK
    · cases hop
  · split at hop
    · split at hop <;> cases hop
    · cases hop
  · rename_i t n ps ho
    split at hop
    · rename_i e he
      split at hop
      · rename_i h1 h2 h3
        split at hop
        · rename_i hb
          split at hop
          · injection hop with hop; injection hop with hop; subst hop
            exact sim_bsliceW hr hs ho he h1 h2 h3 hb.1 hb.2.1 hb.2.2 hdb hd hK
          · injection hop with hop; injection hop with hop; subst hop
            exact sim_bslice hr hs ho he h1 h2 h3 hb.1 hb.2.1 hb.2.2 hdb hd hK
        · cases hop
      · cases hop
    · cases hop
  · split at hop <;> cases hop
  · rename_i t x y ho
    split at hop
    · rename_i h1 h2 h3
      injection hop with hop; injection hop with hop; subst hop
      exact sim_store hr hs ho h1 h2 h3 hd hK
    · cases hop
  · cases h : odOf (by assumption) <;> simp [h] at hop
  · split at hop <;> cases hop
  · cases h : odOf (by assumption) <;> simp [h] at hop
  · cases h : odOf (by assumption) <;> simp [h] at hop
  · split at hop
    · cases hop
    · split at hop <;> cases hop
    · cases hop
  · split at hop <;> cases hop
  · rename_i t ho
    split at hop
    · injection hop with hop; injection hop with hop; subst hop
      exact sim_mkmapF hr hs ho hd hK
    · injection hop with hop; injection hop with hop; subst hop
      exact sim_mkmap hr hs ho hdb hd hK
  · rename_i t l c ho
    split at hop
    · rename_i hlc
      subst hlc
      split at hop
      · rename_i e he
        split at hop
        · rename_i h1 h2
          split at hop
          · rename_i hb
            injection hop with hop; injection hop with hop; subst hop
            have hu : P.underlying t = some (.slice e) := by
              unfold tyElem at he; split at he
              · rename_i h; injection he with he; subst he; exact h
              · cases he
            exact sim_mkslice hr hs ho hu h1 h2 hb.1 hb.2.2 hdb hd hK
          · cases hop
        · cases hop
      · cases hop
    · cases hop
  · rename_i t x lo hi ho
    split at hop
    · split at hop <;> cases hop
    · split at hop <;> cases hop
    · rename_i n e hu
      split at hop
      · rename_i h2 h3 h4 h5
        split at hop
        · split at hop
          · rename_i hcond
            obtain ⟨g1, g2, g3⟩ := hcond
            injection hop with hop; injection hop with hop; subst hop
            rw [Option.isNone_iff_eq_none] at g1 g2
            subst g1; subst g2; subst g3
            exact sim_slcF hr hs ho hu h2 h3 hd hK
          · cases hop
        · cases hop
      · cases hop
    · cases hop
  · split at hop
    · split at hop <;> cases hop
    · cases hop
  · split at hop
    · split at hop
      · split at hop
        · split at hop <;> cases hop
        · cases hop
      · cases hop
    · cases hop
  · split at hop
    · split at hop
      · split at hop <;> cases hop
      · cases hop
    · cases hop
  · split at hop
    · split at hop <;> cases hop
    · split at hop <;> cases hop
    · cases hop
  · split at hop <;> cases hop
  · split at hop
    · split at hop <;> cases hop
    · cases hop
  · rename_i t m k x ho
    split at hop
    · rename_i kt e hu
      split at hop
      · rename_i h1 h2 h3 h4
        injection hop with hop; injection hop with hop; subst hop
        exact sim_mapup hr hs ho hu h1 h2 h3 h4 hd hK
      · cases hop
    · cases hop
  · cases h : odOf (by assumption) <;> simp [h] at hop
  · rename_i c0 ho0
    split at hop
    · rename_i hc0 hargs0
      split at hop
      · rename_i hf0
        split at hop
        · split at hop
          · rename_i hcond
            injection hop with hop; injection hop with hop; subst hop
            rcases hcond.2.2 with h15 | h100
            · exact sim_callL hΓ hr hs ho0 hc0 hf0 hargs0 hcond.1 hcond.2.1 h15 hdb5 hd hK
            · exact sim_callG hΓ hr hs ho0 hc0 hf0 hargs0 hcond.1 hcond.2.1 ⟨h100.1, h100.2.1⟩ hdb5 hd hK
          · cases hop
        · cases hop
      · cases hop
    · rename_i x hc hargs
      cases ht : (by assumption : Call).argTypes[0]? with
      | none => simp [ht] at hop
      | some t =>
        simp only [ht, Option.bind_some] at hop
        split at hop <;> cases hop
    · rename_i x y hc hargs
      split at hop
      · rename_i e e' he1 he2
        split at hop
        · rename_i hsz
          injection hop with hop; injection hop with hop; subst hop
          obtain ⟨X, Y, hl, hX, hY⟩ := odsOf_two hargs
          obtain ⟨t, ht0, ht⟩ := Option.bind_eq_some_iff.1 he1
          have hte : P.underlying t = some (.slice e) := by
            unfold tyElem at ht; split at ht
            · rename_i h; injection ht with ht; subst ht; exact h
            · cases ht
          exact sim_copy hr hs ho0 hc hl ht0 hte hsz hX hY hd hK
        · cases hop
      · cases hop
    · rename_i x hc hargs
      split at hop
      · rename_i e he1
        split at hop
        · rename_i sz z hsz hz
          split at hop
          · rename_i hcond
            injection hop with hop; injection hop with hop; subst hop
            obtain ⟨X, hl, hX⟩ := odsOf_one hargs
            obtain ⟨t, ht0, ht⟩ := Option.bind_eq_some_iff.1 he1
            have hte : P.underlying t = some (.slice e) := by
              unfold tyElem at ht; split at ht
              · rename_i h; injection ht with ht; subst ht; exact h
              · cases ht
            exact sim_clear hr hs ho0 hc hl ht0 hte hz hcond.1 hcond.2.1 hcond.2.2 hX hd hK
          · cases hop
        · cases hop
      · cases hop
    · cases hop
    · cases hop
    · rename_i x y hc hargs
      split at hop
      · rename_i e e' he1 he2
        split at hop
        · rename_i i hi
          split at hop
          · rename_i hcond
            injection hop with hop; injection hop with hop; subst hop
            obtain ⟨X, Y, hl, hX, hY⟩ := odsOf_two hargs
            obtain ⟨t, ht0, ht⟩ := Option.bind_eq_some_iff.1 he1
            obtain ⟨u, hu0, hu⟩ := Option.bind_eq_some_iff.1 he2
            have hte : P.underlying t = some (.slice e) := by
              unfold tyElem at ht; split at ht
              · rename_i h; injection ht with ht; subst ht; exact h
              · cases ht
            exact sim_append hr hs ho0 hc hl ht0 hte hu0 hu hi hcond.1 hcond.2.2.1 hcond.2.2.2 hX hY hdb hd hK
          · cases hop
        · cases hop
      · cases hop
    · cases hop
  · cases hop

theorem Slots.put (hs : Slots w S β O σ a.tmps) {dst : Option Nat} {x : Value} (hv : SR w S β O v x) (hd : ∀ d, dst = some d → d < a.tmps.size) : Slots w S β O (put dst v σ) (a.put dst x).tmps := by
  intro i
  cases dst with
  | none => exact hs i
  | some d =>
    by_cases h : i = d
    · subst h
      simpa [Act.put, Pam.put, hd i rfl] using hv
    · have := hs i
      simpa [Act.put, Pam.put, h, Array.getElem?_setIfInBounds_ne (fun e => h e.symm)] using this

theorem put_size (dst : Option Nat) (x : Value) : (a.put dst x).tmps.size = a.tmps.size := by cases dst <;> simp [Act.put]
theorem put_defers (dst : Option Nat) (x : Value) : (a.put dst x).defers = a.defers := by cases dst <;> rfl

theorem want_rel (hs : Slots w S β O σ a.tmps) {g : Option (Nat × Bool)} (hg : guardOf ops o = some g) {b : Bool} (hw : wantA g σ = some b) : Region.wanted o (yielded ops a.tmps) = b := by
  unfold guardOf at hg
  unfold Region.wanted
  cases ho : o.guard with
  | none => simp [ho] at hg; subst hg; simpa [wantA] using hw
  | some jb =>
    obtain ⟨j, t⟩ := jb
    simp only [ho] at hg
    split at hg
    · rename_i d hd
      injection hg with hg; subst hg
      have h := hs d
      simp only [wantA] at hw
      have hy : yielded ops a.tmps j = match a.tmps[d]? with | some (.bool b) => some b | _ => none := by
        unfold yielded; rw [hd]; rfl
      simp only [hy]
      split at hw
      · rename_i u hu
        rw [hu] at h
        have := h.p_inv
        generalize hx : a.tmps.getD d undef = x at this
        cases this
        injection hw with hw
        have hx' : a.tmps[d]? = some (.bool u) := by
          rw [Array.getD_eq_getD_getElem?] at hx
          cases hq : a.tmps[d]? with
          | none => simp [hq, undef] at hx
          | some y => simp [hq] at hx; rw [hx]
        simp only [hx']
        rw [← hw]
        cases u <;> cases t <;> rfl
      · rename_i hu
        rw [hu] at h
        injection hw with hw
        have hx : a.tmps.getD d undef = undef := by
          generalize a.tmps.getD d undef = x at h
          cases h with
          | un => rfl
          | dead v n x hr hv ho => simp [isRef] at hr
        rw [Array.getD_eq_getD_getElem?] at hx
        rw [← hw]
        cases hq : a.tmps[d]? with
        | none => rfl
        | some y => simp [hq] at hx; rw [hx]; rfl
      · cases hw
    · cases hg

/-- Where the machine stands, seen from where the function began. -/
def At (w0 : World) (S0 : Nat → Prop) (β0 : Nat → Nat) (O0 : Objs) (N : Nat) (σ : Env) (O : Objs) (a : Act) (w : World) : Prop :=
  ∃ S β, Step w0 w S0 S β0 β O0 O ∧ Rel w S β O ∧ Slots w S β O σ a.tmps ∧ a.defers = [] ∧ a.tmps.size = N

variable {w0 : World} {S0 : Nat → Prop} {β0 : Nat → Nat} {O0 : Objs} {N : Nat}

theorem At.put_un (h : At w0 S0 β0 O0 N σ O a w) {dst : Option Nat} (hd : ∀ d, dst = some d → d < N) : At w0 S0 β0 O0 N (put dst .un σ) O (a.put dst undef) w := by
  obtain ⟨S, β, h1, h2, h3, h4, h5⟩ := h
  exact ⟨S, β, h1, h2, h3.put .un fun d hh => by rw [h5]; exact hd d hh, by rw [put_defers]; exact h4, by rw [put_size]; exact h5⟩

theorem roOf_inv {ro : RO} (h : roOf P ann ops o = some ro) : guardOf ops o = some ro.guard ∧ opOf P ann o = some ro.op ∧ ro.dst = o.dst ∧ ∀ d, o.dst = some d → d < 50000 := by
  unfold roOf at h
  split at h
  · rename_i h1 h2
    split at h
    · rename_i h3
      injection h with h; subst h
      refine ⟨h1, h2, rfl, fun d hd => ?_⟩
      simpa [hd] using h3
    · cases h
  · cases h

/-- ONE OPERATION. -/
theorem simO (hΓ : GS P Γ) (h : At w0 S0 β0 O0 N σ O a w) {ro : RO} (hro : roOf P ann ops o = some ro) (hN : ∀ d, o.dst = some d → d < N) {s : Env × Objs} (hst : stepA Γ ro σ O = some s)
    (hK : ∀ a' w', At w0 S0 β0 O0 N s.1 s.2 a' w' → K a' w') : o.wp P a w K Q := by
  obtain ⟨S, β, h1, h2, h3, h4, h5⟩ := h
  obtain ⟨hg, hop, hdst, hdb⟩ := roOf_inv hro
  unfold stepA at hst
  split at hst
  · rename_i op he
    rw [he] at hop
    split at hst
    · rename_i v hv
      injection hst with hst; subst hst
      refine simD hΓ h2 h3 hop hv fun x w' S' hgr hsr => hK _ _ ⟨S', β, h1.trans h2 hgr.step, h2.grow hgr, ?_, by rw [put_defers]; exact h4, by rw [put_size]; exact h5⟩
      rw [hdst]
      exact Slots.put (fun i => (h3 i).grow h2 hgr) hsr fun d hd => by rw [h5]; exact hN d hd
    · cases hst
  · rename_i op he
    rw [he] at hop
    split at hst
    · rename_i v σ' O' hv
      injection hst with hst; subst hst
      rw [hdst] at hv
      refine simW hΓ h2 h3 hop hdb hv fun x w' S' β' hstep hrel hsl hsr => hK _ _ ⟨S', β', h1.trans h2 hstep, hrel, ?_, by rw [put_defers]; exact h4, by rw [put_size]; exact h5⟩
      rw [hdst]
      exact Slots.put hsl hsr fun d hd => by rw [h5]; exact hN d hd
    · cases hst

theorem rosOf_cons {r : List Oper} {ros : List RO} (h : rosOf P ann ops (o :: r) = some ros) : ∃ ro ros', roOf P ann ops o = some ro ∧ rosOf P ann ops r = some ros' ∧ ros = ro :: ros' := by
  simp only [rosOf] at h
  cases h1 : roOf P ann ops o with
  | none => simp [h1] at h
  | some y => cases h2 : rosOf P ann ops r with
    | none => simp [h1, h2] at h
    | some l' => simp [h1, h2] at h; exact ⟨y, l', rfl, rfl, h.symm⟩

/-- THE OPERATIONS OF A REGION, in the order of the text. -/
theorem sim_ops (hΓ : GS P Γ) {Ka : Env → Objs → Prop} (hQ : ∀ σ O a w, Ka σ O → At w0 S0 β0 O0 N σ O a w → Q .normal a w) : ∀ (l : List Oper) (i : Nat) {ros : List RO} {σ : Env} {O : Objs} {a : Act} {w : World}, (∀ j (hj : j < l.length), ops[i + j]? = some l[j]) →
    rosOf P ann ops l = some ros → (∀ o ∈ l, ∀ d, o.dst = some d → d < N) → runOps Γ ros σ O Ka → At w0 S0 β0 O0 N σ O a w → wpOps P ops Q (List.range' i l.length) a w := by
  intro l
  induction l with
  | nil => intro i ros σ O a w _ h1 _ h2 h3; simp [rosOf] at h1; subst h1; exact hQ _ _ _ _ h2 h3
  | cons o r ih =>
    intro i ros σ O a w hops h1 hN h2 h3
    obtain ⟨ro, ros', hro, hros, rfl⟩ := rosOf_cons h1
    have hi : ops[i]? = some o := hops 0 (by simp)
    have hops' : ∀ j (hj : j < r.length), ops[i + 1 + j]? = some r[j] := fun j hj => by
      have := hops (j + 1) (by simp; omega)
      rw [show i + 1 + j = i + (j + 1) by omega]; exact this
    have hN' : ∀ o ∈ r, ∀ d, o.dst = some d → d < N := fun o ho => hN o (by simp [ho])
    obtain ⟨hg, hop, hdst, hdb⟩ := roOf_inv hro
    rw [List.length_cons, List.range'_succ]
    unfold wpOps
    simp only [hi]
    simp only [runOps] at h2
    obtain ⟨S, β, g1, g2, g3, g4, g5⟩ := id h3
    split at h2
    · rename_i hw
      rw [want_rel g3 hg hw]
      simp only [if_true]
      obtain ⟨s, hst, hk⟩ := h2
      exact .inl (simO hΓ h3 hro (hN o (by simp)) hst fun a' w' hat => ih (i + 1) hops' hros hN' hk hat)
    · rename_i hw
      rw [want_rel g3 hg hw]
      simp only [Bool.false_eq_true, if_false]
      rw [hdst] at h2
      exact ih (i + 1) hops' hros hN' h2 (h3.put_un (hN o (by simp)))
    · exact h2.elim
end
end Go.Proofs.YtpobnchalcokoaaDoor.Pam
