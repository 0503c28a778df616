/- A part of the proof that stands in this folder: a small machine whose steps are shown to be the steps of the model, or walks of functions by it. No condition of its own. -/
import Derived.Test.YtpobnchalcokoaaDoorPamF
set_option linter.unusedVariables false
set_option linter.unusedSimpArgs false
namespace Go.Proofs.YtpobnchalcokoaaDoor.Pam
open Go
section
variable {P : Program} {w : World} {S : Nat → Prop} {β : Nat → Nat} {O : Objs} {σ : Env} {a : Act} {o : Oper} {v : SV}

theorem PR.cells {v : PV} {x : Value} (h : PR w S v x) : x.cells.size = v.cells.length ∧ ∀ i (hi : i < v.cells.length), PR w S v.cells[i] (x.cells.getD i undef) := by
  cases h with
  | agg cs vs hn h => exact ⟨hn, h⟩
  | bool b => exact ⟨rfl, fun i hi => by simp [PV.cells] at hi; subst hi; exact .bool b⟩
  | int k n => exact ⟨rfl, fun i hi => by simp [PV.cells] at hi; subst hi; exact .int k n⟩
  | str s => exact ⟨rfl, fun i hi => by simp [PV.cells] at hi; subst hi; exact .str s⟩
  | sl sz xs b off len cap vals h1 h2 h3 h4 h5 h6 => exact ⟨rfl, fun i hi => by simp [PV.cells] at hi; subst hi; exact .sl sz xs b off len cap vals h1 h2 h3 h4 h5 h6⟩
  | nilsl => exact ⟨rfl, fun i hi => by simp [PV.cells] at hi; subst hi; exact .nilsl⟩
  | cp cs b off vals h1 h2 h3 => exact ⟨rfl, fun i hi => by simp [PV.cells] at hi; subst hi; exact .cp cs b off vals h1 h2 h3⟩
  | np => exact ⟨rfl, fun i hi => by simp [PV.cells] at hi; subst hi; exact .np⟩
  | fn f p c va vc h1 h2 h3 h4 => exact ⟨rfl, fun i hi => by simp [PV.cells] at hi; subst hi; exact .fn f p c va vc h1 h2 h3 h4⟩
  | nilfn => exact ⟨rfl, fun i hi => by simp [PV.cells] at hi; subst hi; exact .nilfn⟩
  | mapv es r ck en h1 h2 h3 h4 h5 => exact ⟨rfl, fun i hi => by simp [PV.cells] at hi; subst hi; exact .mapv es r ck en h1 h2 h3 h4 h5⟩
  | nilmap => exact ⟨rfl, fun i hi => by simp [PV.cells] at hi; subst hi; exact .nilmap⟩
  | wh A xs b len cap c ty h1 h2 h3 h4 h5 h6 h7 => exact ⟨rfl, fun i hi => by simp [PV.cells] at hi; subst hi; exact .wh A xs b len cap c ty h1 h2 h3 h4 h5 h6 h7⟩
  | li A xs b off len cap h1 h2 h3 h4 h5 => exact ⟨rfl, fun i hi => by simp [PV.cells] at hi; subst hi; exact .li A xs b off len cap h1 h2 h3 h4 h5⟩
  | tok A h => exact ⟨rfl, fun i hi => by simp [PV.cells] at hi; subst hi; exact .tok A h⟩

/-- A value whose cells are known. -/
def CR (w : World) (S : Nat → Prop) (β : Nat → Nat) (O : Objs) (cs : List SV) (c : Array Value) : Prop := c.size = cs.length ∧ ∀ i (hi : i < cs.length), SR w S β O cs[i] (c.getD i undef)

theorem cellsA_rel {sv : SV} {x : Value} {cs : List SV} (h : SR w S β O sv x) (hc : cellsA O sv = some cs) : CR w S β O cs x.cells := by
  have one : ∀ (u : SV), cs = [u] → SR w S β O u x → x.cells = #[x] → CR w S β O cs x.cells := fun u hu hr hx => by
    subst hu; rw [hx]
    exact ⟨rfl, fun i hi => by simp at hi; subst hi; exact hr⟩
  cases sv with
  | ag l =>
    simp only [cellsA, Option.some.injEq] at hc; subst hc
    obtain ⟨vs, he, hn, hh⟩ := h.ag_inv
    subst he; exact ⟨hn, hh⟩
  | p v =>
    simp only [cellsA, Option.some.injEq] at hc; subst hc
    obtain ⟨h1, h2⟩ := h.p_inv.cells
    exact ⟨by simpa using h1, fun i hi => by simpa using SR.p _ _ (h2 i (by simpa using hi))⟩
  | cl f p q =>
    simp only [cellsA, Option.some.injEq] at hc
    refine one _ hc.symm h ?_
    obtain ⟨va, vc, he, _⟩ := h.cl_inv
    subst he; rfl
  | bx n i =>
    simp only [cellsA] at hc
    split at hc
    · rename_i hl; injection hc with hc
      refine one _ hc.symm h ?_
      obtain ⟨he, _⟩ := h.bx_inv (by intro e; simp [e] at hl)
      subst he; rfl
    · cases hc
  | ar n =>
    simp only [cellsA] at hc
    split at hc
    · rename_i hl; injection hc with hc
      refine one _ hc.symm h ?_
      obtain ⟨_, _, _, _, he, _⟩ := h.ar_inv (by intro e; simp [e] at hl)
      subst he; rfl
    · cases hc
  | sub n i j =>
    simp only [cellsA] at hc
    split at hc
    · rename_i hl; injection hc with hc
      refine one _ hc.symm h ?_
      obtain ⟨_, _, _, _, _, he, _⟩ := h.sub_inv (by intro e; simp [e] at hl)
      subst he; rfl
    · cases hc
  | el n i j =>
    simp only [cellsA] at hc
    split at hc
    · rename_i hl; injection hc with hc
      refine one _ hc.symm h ?_
      obtain ⟨_, _, _, he, _⟩ := h.el_inv (by intro e; simp [e] at hl)
      subst he; rfl
    · cases hc
  | mp n =>
    simp only [cellsA] at hc
    split at hc
    · rename_i hl; injection hc with hc
      refine one _ hc.symm h ?_
      obtain ⟨he, _⟩ := h.mp_inv (by intro e; simp [e] at hl)
      subst he; rfl
    · cases hc
  | tp _ => simp [cellsA] at hc
  | un => simp [cellsA] at hc
  | junk => simp [cellsA] at hc

theorem putCells_length (cs : List SV) (off : Nat) (vs : List SV) : (putCells cs off vs).length = cs.length := by
  induction vs generalizing cs off with
  | nil => rfl
  | cons v r ih => simp [putCells, ih]
theorem putCells_get (cs : List SV) (off : Nat) (vs : List SV) (i : Nat) : (putCells cs off vs)[i]? = if off ≤ i ∧ i < off + vs.length ∧ i < cs.length then vs[i - off]? else cs[i]? := by
  induction vs generalizing cs off with
  | nil => simp only [putCells, List.length_nil]; rw [if_neg (by omega)]
  | cons v r ih =>
    simp only [putCells, ih, List.length_set, List.length_cons]
    by_cases h1 : off + 1 ≤ i ∧ i < off + 1 + r.length ∧ i < cs.length
    · rw [if_pos h1, if_pos (by omega)]
      have e : i - off = (i - (off + 1)) + 1 := by omega
      rw [e, List.getElem?_cons_succ]
    · rw [if_neg h1]
      by_cases h2 : i = off
      · subst h2
        by_cases h3 : i < cs.length
        · rw [if_pos (by omega)]; simp [h3]
        · rw [if_neg (by omega), List.getElem?_eq_none (by simp; omega), List.getElem?_eq_none (by omega)]
      · rw [if_neg (by omega), List.getElem?_set_ne (by omega)]

theorem fold_put (l : List Value) (k off : Nat) (C : Array Value) : ((l.zipIdx k).foldl (fun cs (p : Value × Nat) => cs.setIfInBounds (off + p.2) p.1) C).size = C.size ∧
    ∀ i, ((l.zipIdx k).foldl (fun cs (p : Value × Nat) => cs.setIfInBounds (off + p.2) p.1) C)[i]? = if off + k ≤ i ∧ i < off + k + l.length ∧ i < C.size then l[i - (off + k)]? else C[i]? := by
  induction l generalizing k C with
  | nil => refine ⟨rfl, fun i => ?_⟩; simp only [List.zipIdx_nil, List.foldl_nil, List.length_nil]; rw [if_neg (by omega)]
  | cons v r ih =>
    obtain ⟨h1, h2⟩ := ih (k + 1) (C.setIfInBounds (off + k) v)
    simp only [List.zipIdx_cons, List.foldl_cons]
    refine ⟨by rw [h1]; simp, fun i => ?_⟩
    rw [h2]
    simp only [Array.size_setIfInBounds, List.length_cons]
    by_cases g1 : off + (k + 1) ≤ i ∧ i < off + (k + 1) + r.length ∧ i < C.size
    · rw [if_pos g1, if_pos (by omega)]
      have e : i - (off + k) = (i - (off + (k + 1))) + 1 := by omega
      rw [e, List.getElem?_cons_succ]
    · rw [if_neg g1]
      by_cases g2 : i = off + k
      · subst g2
        by_cases g3 : off + k < C.size
        · rw [if_pos (by omega)]; simp [g3]
        · rw [if_neg (by omega), Array.getElem?_eq_none (by simp; omega), Array.getElem?_eq_none (by omega)]
      · rw [if_neg (by omega), Array.getElem?_setIfInBounds_ne (by omega)]

theorem getD_of? {c : Array Value} {i : Nat} {x : Option Value} (h : c[i]? = x) : c.getD i undef = x.getD undef := by
  rw [← h]; simp

theorem CR.put {cs vs : List SV} {C c : Array Value} {off : Nat} (h : CR w S β O cs C) (hv : CR w S β O vs c) :
    CR w S β O (putCells cs off vs) (c.zipIdx.foldl (fun cs (p : Value × Nat) => cs.setIfInBounds (off + p.2) p.1) C) := by
  have e : c.zipIdx.foldl (fun cs (p : Value × Nat) => cs.setIfInBounds (off + p.2) p.1) C = (c.toList.zipIdx 0).foldl (fun cs (p : Value × Nat) => cs.setIfInBounds (off + p.2) p.1) C := by
    rw [← Array.foldl_toList]; simp
  rw [e]
  obtain ⟨h1, h2⟩ := fold_put c.toList 0 off C
  refine ⟨by rw [h1, putCells_length]; exact h.1, fun i hi => ?_⟩
  rw [putCells_length] at hi
  have hg := putCells_get cs off vs i
  have hc := h2 i
  have hcl : c.toList.length = vs.length := by simpa using hv.1
  have hCl := h.1
  rw [List.getElem?_eq_getElem (by rw [putCells_length]; exact hi)] at hg
  by_cases g : off ≤ i ∧ i < off + vs.length
  · rw [if_pos (by omega)] at hg hc
    have hlt : i - off < vs.length := by omega
    rw [List.getElem?_eq_getElem hlt] at hg
    injection hg with hg
    rw [hg, getD_of? hc]
    have := hv.2 (i - off) hlt
    simpa using this
  · rw [if_neg (by omega)] at hg hc
    rw [List.getElem?_eq_getElem hi] at hg
    injection hg with hg
    rw [hg, getD_of? hc]
    have := h.2 i hi
    simpa using this

theorem fill_rel {place : Nat → Option (Nat × Nat)} (hs : Slots w S β O σ a.tmps) : ∀ {ps : List (Nat × Operand)} {ps' : List (Nat × Nat × Od)} {cs cs' : List SV} {C : Array Value}, partsOf place ps = some ps' → CR w S β O cs C → buildA O (ev σ) ps' cs = some cs' →
    ∃ C', Instr.fill place C (ps.map fun p => (p.1, a.eval p.2)) = some C' ∧ CR w S β O cs' C' := by
  intro ps
  induction ps with
  | nil => intro ps' cs cs' C h1 h2 h3; simp [partsOf] at h1; subst h1; simp [buildA] at h3; subst h3; exact ⟨C, rfl, h2⟩
  | cons p r ih =>
    obtain ⟨i, x⟩ := p
    intro ps' cs cs' C h1 h2 h3
    simp only [partsOf] at h1
    cases hp : place i with
    | none => simp [hp] at h1
    | some pn =>
      obtain ⟨off, n⟩ := pn
      cases hx : odOf x with
      | none => simp [hp, hx] at h1
      | some x' =>
        cases hr : partsOf place r with
        | none => simp [hp, hx, hr] at h1
        | some r' =>
          simp [hp, hx, hr] at h1; subst h1
          simp only [buildA] at h3
          cases hc : cellsA O (ev σ x') with
          | none => simp [hc] at h3
          | some vs =>
            simp only [hc] at h3
            split at h3
            · rename_i hfit
              have hv := cellsA_rel (od_rel hs hx) hc
              have hput := h2.put hv (off := off)
              obtain ⟨C', hf, hC'⟩ := ih hr hput h3
              refine ⟨C', ?_, hC'⟩
              have e1 : (a.eval x).cells.size = n := by rw [hv.1]; exact hfit.1
              have e2 : ¬ (C.size < off + (a.eval x).cells.size) := by rw [h2.1, hv.1]; omega
              simp only [List.map_cons, Instr.fill, hp]
              rw [if_neg (by simp [e1]; rw [e1] at e2; omega)]
              exact hf
            · cases h3

theorem run_mapM_list {α γ : Type} {f : α → Sem γ} {g : α → γ} (l : List α) (h : ∀ x ∈ l, (f x).run P w = .ok (g x) w) : (l.mapM f).run P w = .ok (l.map g) w := by
  induction l with
  | nil => rfl
  | cons x r ih =>
    simp only [List.mapM_cons, Sem.run_bind, h x (by simp), Result.andThen_ok, ih fun y hy => h y (by simp [hy]), Sem.run_pure, List.map_cons]
theorem run_mapM_array {α γ : Type} {f : α → Sem γ} {g : α → γ} (l : Array α) (h : ∀ x ∈ l, (f x).run P w = .ok (g x) w) : (l.mapM f).run P w = .ok (l.map g) w := by
  rw [Array.mapM_eq_mapM_toList]
  simp only [Sem.run_map, run_mapM_list l.toList fun x hx => h x (by simpa using hx), Result.andThen_ok]
  exact congrArg (fun r => Result.ok r w) (by apply Array.ext'; simp)

theorem CR.zero {z : PV} {x : Value} (h : PR w S z x) : CR w S β O (z.cells.map .p) x.cells := by
  obtain ⟨h1, h2⟩ := h.cells
  exact ⟨by simpa using h1, fun i hi => by simpa using SR.p _ _ (h2 i (by simpa using hi))⟩

theorem sim_build {t : TypeId} {ps : Array (Nat × Operand)} {z : PV} {ps' : List (Nat × Nat × Od)} (hs : Slots w S β O σ a.tmps) (ho : o.op = .build t ps) (hz : tyZero P t = some z) (hp : partsOf (fieldPl P t) ps.toList = some ps') (hf : flatOk P t = true) {Γ : Gam}
    (hd : stepD Γ O (ev σ) (.build z.cells ps') = some v) : Val P w S β O a o v := by
  simp only [stepD] at hd
  cases hb : buildA O (ev σ) ps' (z.cells.map .p) with
  | none => simp [hb] at hd
  | some cs =>
    simp [hb] at hd; subst hd
    obtain ⟨zv, hzr, hzp⟩ := run_zero (w := w) hz
    have hcr : CR w S β O (z.cells.map .p) zv.cells := CR.zero (ofVal_rel hzp)
    obtain ⟨C', hfl, hC'⟩ := fill_rel hs hp hcr hb
    refine ⟨.agg C', ?_, .ag _ _ hC'.1 hC'.2⟩
    have hpl : (ps.map fun (i, x) => (i, a.eval x)).toList = ps.toList.map fun p => (p.1, a.eval p.2) := by simp
    unfold flatOk at hf
    split at hf
    · rename_i fs hu
      have hm : (fs.mapM fun f => do pure (f.offset, ← sizeOf f.type) : Sem (Array (Nat × Nat))).run P w = .ok (fs.map fun f => (f.offset, (tySz P f.type).getD 0)) w := by
        refine run_mapM_array fs fun f hfm => ?_
        have := (List.all_eq_true.1 hf) f (by simpa using hfm)
        obtain ⟨n, hn⟩ := Option.isSome_iff_exists.1 this
        simp [run_sz hn, hn]
      have hpe : (fun i => (fs.map fun f => (f.offset, (tySz P f.type).getD 0))[i]?) = fieldPl P t := by
        funext i
        simp only [fieldPl, hu, Array.getElem?_map]
        cases hfi : fs[i]? with
        | none => rfl
        | some f =>
          have hfm : f ∈ fs.toList := by
            have := Array.mem_of_getElem? hfi
            simpa using this
          have := (List.all_eq_true.1 hf) f hfm
          obtain ⟨n, hn⟩ := Option.isSome_iff_exists.1 this
          simp [hn]
      simp only [execOp, ho, Instr.build, Sem.run_bind, hzr, Result.andThen_ok, run_underlying hu, hm, Sem.run_pure]
      rw [hpl, hpe, hfl]
      simp
    · rename_i n e hu
      obtain ⟨sz, hn⟩ := Option.isSome_iff_exists.1 hf
      have hpe : (fun i => some (i * sz, sz)) = fieldPl P t := by
        funext i
        simp [fieldPl, hu, hn]
      simp only [execOp, ho, Instr.build, Sem.run_bind, hzr, Result.andThen_ok, run_underlying hu, run_sz hn, Sem.run_pure]
      rw [hpl, hpe, hfl]
      simp
    · cases hf
end
end Go.Proofs.YtpobnchalcokoaaDoor.Pam
