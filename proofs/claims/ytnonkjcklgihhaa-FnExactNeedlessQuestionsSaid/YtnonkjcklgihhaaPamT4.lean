/- A part of the proof that stands in this folder: a small machine whose steps are shown to be the steps of the model, or walks of functions by it. No condition of its own. -/
import Derived.Test.YtnonkjcklgihhaaPamT3
set_option linter.unusedVariables false
set_option linter.unusedSimpArgs false
namespace Go.Proofs.Ytnonkjcklgihhaa.Pam
open Go

/-! a whole list becomes the function's own -/
def noA : Nat → Prop := fun _ => False
/-- What remains of a value. -/
inductive Th (d : Nat) (O O' : Objs) : SV → SV → Prop
  | junk (v : SV) : Th d O O' v .junk
  | scal (v : PV) (h : v.scal = true) : Th d O O' (.p v) (.p v)
  | bx (n off : Nat) (h : n ≠ d) : Th d O O' (.bx n off) (.bx n off)
  | ar (n : Nat) (h : n ≠ d) (h' : O' n = O n) : Th d O O' (.ar n) (.ar n)

structure Thaw (d : Nat) (σ : Env) (O : Objs) (σ' : Env) (O' : Objs) : Prop where
  hd : d < 1000000
  own : ∃ xs, σ d = .p (.wh noA xs) ∧ σ' d = .ar d ∧ O' d = some (.arr 1 xs)
  no : O d = none
  slots : ∀ i, i ≠ d → Th d O O' (σ i) (σ' i)
  obs : ∀ m, m ≠ d → O' m = none ∨ (∃ sz xs, O m = some (.arr sz xs) ∧ O' m = some (.arr sz xs) ∧ xs.all PV.scal = true) ∨ ∃ cs cs', O m = some (.box cs) ∧ O' m = some (.box cs') ∧ cs'.length = cs.length ∧ ∀ i (hi : i < cs.length) (hi' : i < cs'.length), Th d O O' cs[i] cs'[i]

section
variable {P : Program} {w w' w0 : World} {S S' : Nat → Prop} {β β' β0 : Nat → Nat} {O0 : Objs} {N : Nat} {O O' : Objs} {σ σ' : Env} {a : Act} {ann : Nat → Option Ann} {Γ : Gam} {ks os : List Nat} {f : FuncId} {af : AFn}

theorem Th.rel {d : Nat} {T : Nat → Prop} (h : Thaw d σ O σ' O') (hβ : ∀ n, n ≠ d → β' n = β n) {v v' : SV} {x : Value} (ht : Th d O O' v v') (hv : SR w S β O v x) : SR w T β' O' v' x := by
  cases ht with
  | junk v => exact .junk _
  | scal v hs => exact .p _ _ (hv.p_inv.scal_any v hs)
  | bx n off hn =>
    rcases h.obs n hn with h0 | ⟨sz, xs, h1, h2, _⟩ | ⟨cs, cs', h1, h2, _⟩
    · exact .dead _ n _ rfl rfl h0
    · obtain ⟨_, cs, e⟩ := hv.bx_inv (by rw [h1]; simp)
      rw [h1] at e; cases e
    · obtain ⟨e, _⟩ := hv.bx_inv (by rw [h1]; simp)
      rw [e, ← hβ n hn]
      exact .bx n off cs' h2
  | ar n hn hO => exact (leaf_name (k := n) (m := n) hO (hβ n hn)).1 (by
      cases hv with
      | ar n sz cap xs ho hl hc => exact .ar n sz cap xs ho hl hc
      | dead v n x hr hv ho => exact .dead _ _ _ hr hv ho)

/-- A WHOLE LIST, apart from all, is taken as one's own: what else lay in memory is given up. -/
theorem At.thaw {d : Nat} (h : Thaw d σ O σ' O') (hat : At w0 noA β0 O0 N σ O a w) : At w0 noA β0 O0 N σ' O' a w := by
  obtain ⟨S, β, hst, hrel, hsl, hdef, hsz⟩ := hat
  obtain ⟨xs, h1, h2, h3⟩ := h.own
  have hx := hsl d
  rw [h1] at hx
  obtain ⟨b, cap, c, ty, ex, hcap, hSb, _, hb, hcs, hcells⟩ := hx.p_inv.wh_inv
  have hβ : ∀ n, n ≠ d → (fun n => if n = d then b else β n) n = β n := fun n hn => by simp [hn]
  have hO : ∀ m, m ≠ d → O' m ≠ none → O m ≠ none := fun m hm hne => by
    rcases h.obs m hm with h0 | ⟨sz, xs, h1, _⟩ | ⟨cs, cs', h1, _⟩
    · exact absurd h0 hne
    · rw [h1]; simp
    · rw [h1]; simp
  have hall := allInt_of hcells
  have hf := flat_allInt hall
  have hblt := (hrel.sep b hSb).1
  refine ⟨noA, fun n => if n = d then b else β n, ⟨hst.fr, fun _ h => h, fun _ h => h.elim, fun i => ?_, fun n hn hlt => ?_⟩, ⟨fun n hn => ?_, fun n m hn hm he => ?_, fun _ h => h.elim, fun n o ho => ?_⟩, fun i => ?_, hdef, hsz⟩
  · have : X i ≠ d := by have := h.hd; simp only [X]; omega
    simp only [if_neg this]; exact hst.ext i
  · by_cases hn' : n = d
    · simp only [hn', if_true] at hlt ⊢
      rcases hst.new b hSb with g | ⟨m, g1, g2⟩ | ⟨g1, _⟩
      · exact g.elim
      · exact ⟨m, g1, g2.symm⟩
      · omega
    · simp only [if_neg hn'] at hlt ⊢
      exact hst.old n (hO n hn' hn) hlt
  · by_cases hn' : n = d
    · simp only [hn', if_true]; exact hblt
    · simp only [if_neg hn']; exact hrel.live n (hO n hn' hn)
  · by_cases hn' : n = d <;> by_cases hm' : m = d
    · rw [hn', hm']
    · simp only [if_pos hn', if_neg hm'] at he
      exact absurd he.symm ((hrel.sep b hSb).2 m (hO m hm' hm))
    · simp only [if_neg hn', if_pos hm'] at he
      exact absurd he ((hrel.sep b hSb).2 n (hO n hn' hn))
    · simp only [if_neg hn', if_neg hm'] at he
      exact hrel.inj n m (hO n hn' hn) (hO m hm' hm) he
  · by_cases hn' : n = d
    · rw [hn', h3] at ho
      injection ho with ho; subst ho
      subst hn'
      refine ⟨c, ty, by simpa using hb, fun x hx => ?_, by rw [hf]; omega, fun i hi => ?_⟩
      · obtain ⟨i, hi, rfl⟩ := List.getElem_of_mem hx
        obtain ⟨k, n, e, _⟩ := hcells i hi
        rw [e]; rfl
      · have hi' : i < xs.length := by rw [hf] at hi; exact hi
        obtain ⟨k, n, e, e2⟩ := hcells i hi'
        have e3 : (flat xs)[i] = .int k n := by rw [← e]; simp only [hf]
        rw [e3, e2]
        exact .int k n
    · rcases h.obs n hn' with h0 | ⟨sz, ys, g1, g2, g3⟩ | ⟨cs, cs', g1, g2, g3, g4⟩
      · rw [h0] at ho; cases ho
      · rw [g2] at ho; injection ho with ho; subst ho
        obtain ⟨c', ty', k1, k2, k3, k4⟩ := hrel.obj n _ g1
        exact ⟨c', ty', by simpa [hn'] using k1, k2, k3, fun i hi => (k4 i hi).scal_any _ (scal_flat g3 _ (List.getElem_mem hi))⟩
      · rw [g2] at ho; injection ho with ho; subst ho
        obtain ⟨c', ty', k1, k2, k3⟩ := hrel.obj n _ g1
        exact ⟨c', ty', by simpa [hn'] using k1, by omega, fun i hi => (g4 i (by omega) hi).rel h hβ (k3 i (by omega))⟩
  · by_cases hi : i = d
    · rw [hi, h2, ex]
      have := SR.ar (w := w) (S := noA) (β := fun n => if n = d then b else β n) (O := O') d 1 cap xs h3 hcap (by simp only [if_true]; rw [bsz_cells hb]; omega)
      simpa using this
    · exact (h.slots i hi).rel h hβ (hsl i)

/-- The machine, with a step in between that no code does. -/
def awK (Γ : Gam) (ks os : List Nat) (T : Env → Objs → Env → Objs → Prop) : Nat → AC → (Out → Env → Objs → Prop) → Env → Objs → Prop
  | 0, ac, Q, σ, O => ∃ σ' O', T σ O σ' O' ∧ aw Γ ks os ac Q σ' O'
  | k + 1, .seq x y, Q, σ, O => aw Γ ks os x (fun o σ' O' => match o with | .norm => awK Γ ks os T k y Q σ' O' | o => Q o σ' O') σ O
  | _ + 1, _, _, _, _ => False

theorem codeOf_seq {c : Code} {x y : AC} (h : codeOf P ann c = some (.seq x y)) : ∃ c1 c2, c = .seq c1 c2 ∧ codeOf P ann c1 = some x ∧ codeOf P ann c2 = some y := by
  cases c with
  | seq c1 c2 =>
    simp only [codeOf] at h
    split at h
    · rename_i p q hp hq
      injection h with h; injection h with e1 e2; subst e1; subst e2
      exact ⟨c1, c2, rfl, hp, hq⟩
    · cases h
  | skip => simp [codeOf] at h
  | region id ops draw =>
    cases draw with
    | false => simp only [codeOf] at h; cases hr : rosOf P ann ops ops.toList <;> simp [hr] at h
    | true =>
      simp only [codeOf] at h
      split at h
      · rename_i x hx
        injection h with h; subst h
        unfold dregOf at hx
        simp only at hx
        split at hx
        · split at hx
          · injection hx with hx; cases hx
          · cases hx
        · cases hx
      · unfold cregOf at h
        simp only at h
        split at h
        · split at h
          · injection h with h; cases h
          · cases h
        · cases h
  | cond c a b =>
    simp only [codeOf] at h
    split at h
    · injection h with h; cases h
    · cases h
  | block id b => simp only [codeOf] at h; cases hb : codeOf P ann b <;> simp [hb] at h
  | loop b => simp only [codeOf] at h; cases hb : codeOf P ann b <;> simp [hb] at h
  | exit id => simp [codeOf] at h
  | ret => simp [codeOf] at h
  | _ => simp [codeOf] at h

theorem awK_sound {S0 : Nat → Prop} {T : Env → Objs → Env → Objs → Prop} (hΓ : GS P Γ) (hm : P.follows .mixedOrders = true) (hT : ∀ σ O σ' O' (a : Act) (w : World), T σ O σ' O' → At w0 S0 β0 O0 N σ O a w → At w0 S0 β0 O0 N σ' O' a w) :
    ∀ (k : Nat) (c : Code) {ac : AC} {Qa : Out → Env → Objs → Prop} {Q : Exit → Act → World → Prop} {σ : Env} {O : Objs} {a : Act} {w : World},
      codeOf P ann c = some ac → codeDst N c = true → awK Γ ks os T k ac Qa σ O → At w0 S0 β0 O0 N σ O a w → (∀ out σ O a w, Qa out σ O → At w0 S0 β0 O0 N σ O a w → Q out.exit' a w) → c.wp P Q a w := by
  intro k
  induction k with
  | zero =>
    intro c ac Qa Q σ O a w h1 h2 h3 h4 hQ
    obtain ⟨σ', O', ht, h3⟩ := h3
    exact aw_sound hΓ hm c h1 h2 h3 (hT _ _ _ _ _ _ ht h4) hQ
  | succ k ih =>
    intro c ac Qa Q σ O a w h1 h2 h3 h4 hQ
    cases ac with
    | seq x y =>
      obtain ⟨c1, c2, rfl, hp, hq⟩ := codeOf_seq h1
      simp only [codeDst, Bool.and_eq_true] at h2
      simp only [awK] at h3
      refine wp_seq (aw_sound hΓ hm c1 hp h2.1 h3 h4 fun out σ O a w hk hat => ?_)
      cases out with
      | norm => exact ih c2 hq h2.2 hk hat hQ
      | ret => exact hQ .ret _ _ _ _ hk hat
      | exit id => exact hQ (.exit id) _ _ _ _ hk hat
    | _ => exact h3.elim

theorem Rel.nar {ext : List Ob} {T : Nat → Prop} (hT : ∀ b, T b → S b) (he : ext.all Ob.scal = true) (hb : ∀ o ∈ ext, ∃ sz xs, o = .arr sz xs) (h : Rel w S β (resO ext [])) : Rel w T β (resO ext []) := by
  refine ⟨h.live, h.inj, fun b hb => h.sep b (hT b hb), fun n o ho => ?_⟩
  have hmem : o ∈ ext := by
    unfold resO at ho
    split at ho
    · simp at ho
    · split at ho
      · exact List.mem_of_getElem? ho
      · cases ho
  obtain ⟨sz, xs, rfl⟩ := hb o hmem
  obtain ⟨c, ty, k1, k2, k3, k4⟩ := h.obj n _ ho
  have hs : xs.all PV.scal = true := by have := List.all_eq_true.1 he _ hmem; simpa [Ob.scal] using this
  exact ⟨c, ty, k1, k2, k3, fun i hi => (k4 i hi).scal_any _ (scal_flat hs _ (List.getElem_mem hi))⟩

theorem OR.up {n : Nat} {o : Ob} (hS : ∀ b, S b → S' b) (h : OR w S β O n o) : OR w S' β O n o := by
  cases o with
  | box cs => obtain ⟨c, ty, h1, h2, h3⟩ := h; exact ⟨c, ty, h1, h2, fun i hi => (h3 i hi).mono (fun b hb => ⟨hS b hb, rfl⟩) fun n _ => by
      cases ho : O n with
      | none => exact .inl rfl
      | some o => exact .inr ⟨o, o, rfl, rfl, likeO_refl o, rfl, rfl⟩⟩
  | arr sz xs => obtain ⟨c, ty, h1, h2, h3, h4⟩ := h; exact ⟨c, ty, h1, h2, h3, fun i hi => (h4 i hi).mono fun b hb => ⟨hS b hb, rfl⟩⟩
  | map es => obtain ⟨en, cl, h1, h2, h3, h4⟩ := h; exact ⟨en, cl, h1, h2, fun i hi => (h3 i hi).mono fun b hb => ⟨hS b hb, rfl⟩, fun i hi => (h4 i hi).mono fun b hb => ⟨hS b hb, rfl⟩⟩

/-- A FUNCTION to which lists are lent, and that takes a whole list as its own on the way. -/
theorem Is.goK (h : Is P f af) (hm : P.follows .mixedOrders = true) (hΓ : GS P Γ) (ks os : List Nat) (k d : Nat) {args : List SV} {r : SV} {ext ext' fs : List Ob} (ha : args.length ≤ af.np) (he : ext.length ≤ 1000)
    (hsc : ext.all Ob.scal = true) (har : ∀ o ∈ ext, ∃ sz xs, o = .arr sz xs) (hargs : ∀ (w : World) (S : Nat → Prop) (β : Nat → Nat) (v : SV) (x : Value), v ∈ args → SR w S β (resO ext []) v x → SR w noA β (resO ext []) v x)
    (hrun : awK Γ ks os (Thaw d) k af.body (finA af.res ext r ext' fs) (mkEnv (args.zipIdx.map fun p => (p.2, p.1))) (mkO (ext.zipIdx.map fun p => (X p.2, some p.1)))) : PC P f args ext r ext' fs := by
  obtain ⟨fn, c, ann, h1, h2, h3, h4, h5, h6⟩ := h.ex
  rw [← argE_mk, ← resX_mk ext he] at hrun
  refine pc_of_awH h1 h2 h3 h4 (by omega) (σ0 := fun _ => argE args) (fun w S β vals n hsz hv i => ?_) (by omega) fun hc w S β Q a hat hpost => ?_
  · rw [argsE_at]
    by_cases hi : i < args.length
    · have := hv i hi
      simp only [List.getElem?_eq_getElem hi, Option.getD_some]
      have e : (vals ++ Array.replicate n undef).getD i undef = vals.getD i undef := by
        simp [Array.getElem?_append, show i < vals.size by omega]
      simp only [e]; exact this
    · rw [List.getElem?_eq_none (by omega)]; exact .junk _
  · obtain ⟨S1, β1, hst, hrel, hsl, hdef, hsz⟩ := hat
    -- seen with nothing frozen
    have hrel0 : Rel w S1 β1 (resO ext []) := hrel
    have hat0 : At w noA β1 (resO ext []) fn.ntmps (argE args) (resO ext []) a w := ⟨noA, β1, Step.refl _ _ _ _, Rel.nar (fun _ h => h.elim) hsc har hrel0, fun i => by
      have := hsl i
      rw [argsE_at] at this ⊢
      by_cases hi : i < args.length
      · simp only [List.getElem?_eq_getElem hi, Option.getD_some] at this ⊢
        exact hargs _ _ _ _ _ (List.getElem_mem hi) this
      · rw [List.getElem?_eq_none (by omega)]; exact .junk _, hdef, hsz⟩
    refine awK_sound hΓ hm (fun σ O σ' O' a w ht hat => hat.thaw ht) k c hc h5 hrun hat0 fun out σ O a' w' hfin hat' => hpost out σ O a' w' hfin ?_
    obtain ⟨S2, β2, g1, g2, g3, g4, g5⟩ := hat'
    have hst2 : Step w w' S1 (fun b => S1 b ∨ S2 b) β1 β2 (resO ext []) O := ⟨g1.fr, fun b hb => .inl hb, fun b hb => by
      rcases hb with hb | hb
      · exact .inl hb
      · rcases g1.new b hb with g | g | g
        · exact g.elim
        · exact .inr (.inl g)
        · exact .inr (.inr g), g1.ext, g1.old⟩
    have hrel2 : Rel w' (fun b => S1 b ∨ S2 b) β2 O := ⟨g2.live, g2.inj, fun b hb => by
      rcases hb with hb | hb
      · have := hrel0.sep b hb
        refine ⟨Nat.lt_of_lt_of_le this.1 g1.fr.size, fun n hn e => ?_⟩
        obtain ⟨m, m1, m2⟩ := g1.old n hn (by rw [e]; exact this.1)
        exact this.2 m m1 (by rw [← m2, e])
      · exact g2.sep b hb, fun n o ho => (g2.obj n o ho).up fun b hb => .inr hb⟩
    exact ⟨_, β2, hst.trans hrel0 hst2, hrel2, fun i => (g3 i).mono (fun b hb => ⟨.inr hb, rfl⟩) fun n _ => by
      cases ho : O n with
      | none => exact .inl rfl
      | some o => exact .inr ⟨o, o, rfl, rfl, likeO_refl o, rfl, rfl⟩, g4, g5⟩

theorem SR.ar_any {T : Nat → Prop} {n : Nat} {x : Value} (h : SR w S β O (.ar n) x) : SR w T β O (.ar n) x := by
  cases h with
  | ar n sz cap xs ho hl hc => exact .ar n sz cap xs ho hl hc
  | dead v n x hr hv ho => exact .dead _ _ _ hr hv ho
/-- A state whose list is lent. -/
theorem SR.lent {T : Nat → Prop} {n : Nat} {v : PV} (hv : v.scal = true) {x : Value} (h : SR w S β O (.ag [.ar n, .p v]) x) : SR w T β O (.ag [.ar n, .p v]) x := by
  obtain ⟨vs, rfl, hn, he⟩ := h.ag_inv
  refine .ag _ vs hn fun i hi => ?_
  match i, hi with
  | 0, _ =>
    have h0 := he 0 (by simp)
    simp only [List.getElem_cons_zero] at h0 ⊢
    exact h0.ar_any
  | 1, _ =>
    have h1 := he 1 (by simp)
    simp only [List.getElem_cons_succ, List.getElem_cons_zero] at h1 ⊢
    exact .p _ _ (h1.p_inv.scal_any _ hv)
/-- A plain list of numbers, beside which nothing is told. -/
def SV.em : SV → SV
  | .p (.sl 1 xs) => if xs.all PV.isInt = true then .p (.li noA xs) else .p (.sl 1 xs)
  | v => v
def emC (c : Con) : Con := fun args ext => c (args.map SV.em) ext
theorem SR.em {v : SV} {x : Value} (h : SR w S β O v x) : SR w S β O v.em x := by
  unfold SV.em
  split
  · split
    · rename_i xs hx
      exact .p _ _ (h.p_inv.sl_li hx fun _ h => h.elim)
    · exact h
  · exact h
theorem Says.em {c : Con} (h : Says P f c) : Says P f (emC c) := by
  intro args ext r ext' fs he
  have hp := h (args.map SV.em) ext r ext' fs he
  refine ⟨hp.1, fun w S β vals hr hsz hv => hp.2 w S β vals hr (by simpa using hsz) fun i hi => ?_⟩
  simp only [List.getElem_map]
  exact (hv i (by simpa using hi)).em

/-- Here the walk halts: what comes is told anew. -/
def cutT (σ : Env) (O : Objs) [k : KN] : Prop := k.k σ O
theorem awK3 {T : Env → Objs → Env → Objs → Prop} {a b c e : AC} {Q : Out → Env → Objs → Prop} {σ : Env} {O : Objs} : awK Γ ks os T 3 (.seq a (.seq b (.seq c e))) Q σ O =
    aw Γ ks os a (fun o σ' O' => match o with | .norm => aw Γ ks os b (fun o σ' O' => match o with | .norm => aw Γ ks os c (fun o σ' O' => match o with | .norm => @cutT σ' O' ⟨fun σ O => ∃ σ' O', T σ O σ' O' ∧ aw Γ ks os e Q σ' O'⟩ | o => Q o σ' O') σ' O' | o => Q o σ' O') σ' O' | o => Q o σ' O') σ O := rfl

inductive ThE (d : Nat) (O O' : Objs) : List (Nat × SV) → List (Nat × SV) → Prop
  | nil : ThE d O O' [] []
  | own (v v' : SV) {l l' : List (Nat × SV)} (r : ThE d O O' l l') : ThE d O O' ((d, v) :: l) ((d, v') :: l')
  | cons {k : Nat} {v v' : SV} {l l' : List (Nat × SV)} (h : Th d O O' v v') (r : ThE d O O' l l') : ThE d O O' ((k, v) :: l) ((k, v') :: l')
theorem ThE.at {d : Nat} {l l' : List (Nat × SV)} (h : ThE d O O' l l') : ∀ i, i ≠ d → Th d O O' (mkEnv l i) (mkEnv l' i) := by
  induction h with
  | nil => exact fun i _ => .junk _
  | own v v' r ih => intro i hi; simp only [mkEnv, if_neg hi]; exact ih i hi
  | cons h r ih =>
    intro i hi
    simp only [mkEnv]
    split
    · exact h
    · exact ih i hi
inductive ThO (d : Nat) (O O' : Objs) : List (Nat × Option Ob) → List (Nat × Option Ob) → Prop
  | nil : ThO d O O' [] []
  | own (v v' : Option Ob) {l l' : List (Nat × Option Ob)} (r : ThO d O O' l l') : ThO d O O' ((d, v) :: l) ((d, v') :: l')
  | none {k : Nat} (v : Option Ob) {l l' : List (Nat × Option Ob)} (r : ThO d O O' l l') : ThO d O O' ((k, v) :: l) ((k, .none) :: l')
  | arr {k : Nat} (sz : Nat) (xs : List PV) {l l' : List (Nat × Option Ob)} (h : xs.all PV.scal = true) (r : ThO d O O' l l') : ThO d O O' ((k, some (.arr sz xs)) :: l) ((k, some (.arr sz xs)) :: l')
  | box2 {k : Nat} (a b a' b' : SV) {l l' : List (Nat × Option Ob)} (h1 : Th d O O' a a') (h2 : Th d O O' b b') (r : ThO d O O' l l') : ThO d O O' ((k, some (.box [a, b])) :: l) ((k, some (.box [a', b'])) :: l')
theorem ThO.at {d : Nat} {l l' : List (Nat × Option Ob)} (h : ThO d O O' l l') : ∀ m, m ≠ d → mkO l' m = .none ∨ (∃ sz xs, mkO l m = some (.arr sz xs) ∧ mkO l' m = some (.arr sz xs) ∧ xs.all PV.scal = true) ∨ ∃ cs cs', mkO l m = some (.box cs) ∧ mkO l' m = some (.box cs') ∧ cs'.length = cs.length ∧ ∀ i (hi : i < cs.length) (hi' : i < cs'.length), Th d O O' cs[i] cs'[i] := by
  induction h with
  | nil => exact fun m _ => .inl rfl
  | own v v' r ih => intro i hi; simp only [mkO, if_neg hi]; exact ih i hi
  | none v r ih =>
    intro i hi
    simp only [mkO]
    split
    · exact .inl rfl
    · exact ih i hi
  | arr sz xs h r ih =>
    intro i hi
    simp only [mkO]
    split
    · exact .inr (.inl ⟨sz, xs, rfl, rfl, h⟩)
    · exact ih i hi
  | box2 a b a' b' h1 h2 r ih =>
    intro i hi
    simp only [mkO]
    split
    · refine .inr (.inr ⟨[a, b], [a', b'], rfl, rfl, rfl, fun i hi hi' => ?_⟩)
      match i, hi with
      | 0, _ => exact h1
      | 1, _ => exact h2
    · exact ih i hi
theorem thaw_mk {d : Nat} {l l' : List (Nat × SV)} {m m' : List (Nat × Option Ob)} {xs : List PV} (hd : d < 1000000) (h1 : mkEnv l d = .p (.wh noA xs)) (h2 : mkEnv l' d = .ar d) (h3 : mkO m' d = some (.arr 1 xs)) (h4 : mkO m d = none)
    (hE : ThE d (mkO m) (mkO m') l l') (hO : ThO d (mkO m) (mkO m') m m') : Thaw d (mkEnv l) (mkO m) (mkEnv l') (mkO m') := ⟨hd, ⟨xs, h1, h2, h3⟩, h4, hE.at, hO.at⟩
end
end Go.Proofs.Ytnonkjcklgihhaa.Pam
