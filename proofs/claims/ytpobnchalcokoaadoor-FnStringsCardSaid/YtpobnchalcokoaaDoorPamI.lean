/- A part of the proof that stands in this folder: a small machine whose steps are shown to be the steps of the model, or walks of functions by it. No condition of its own. -/
import Derived.Test.YtpobnchalcokoaaDoorPamH
set_option linter.unusedVariables false
set_option linter.unusedSimpArgs false
namespace Go.Proofs.YtpobnchalcokoaaDoor.Pam
open Go

structure Fr (w w' : World) (W : Nat → Prop) : Prop where
  os : w'.os = w.os
  tape : w'.tape = w.tape
  output : w'.output = w.output
  size : w.heap.size ≤ w'.heap.size
  block : ∀ b, b < w.heap.size → ¬ W b → w'.heap[b]? = w.heap[b]?
  same : ∀ b, b < w.heap.size → bsz w' b = bsz w b

theorem Fr.refl (w : World) (W : Nat → Prop) : Fr w w W := ⟨rfl, rfl, rfl, Nat.le_refl _, fun _ _ _ => rfl, fun _ _ => rfl⟩
theorem Fr.trans {w w' w'' : World} {W W' : Nat → Prop} (h : Fr w w' W) (h' : Fr w' w'' W') (hW : ∀ b, b < w.heap.size → W' b → W b) : Fr w w'' W :=
  ⟨h'.os.trans h.os, h'.tape.trans h.tape, h'.output.trans h.output, Nat.le_trans h.size h'.size, fun b hb hn =>
    (h'.block b (Nat.lt_of_lt_of_le hb h.size) (fun hw => hn (hW b hb hw))).trans (h.block b hb hn), fun b hb => (h'.same b (Nat.lt_of_lt_of_le hb h.size)).trans (h.same b hb)⟩
theorem Fr.mono {w w' : World} {W W' : Nat → Prop} (h : Fr w w' W) (hW : ∀ b, b < w.heap.size → W b → W' b) : Fr w w' W' :=
  ⟨h.os, h.tape, h.output, h.size, fun b hb hn => h.block b hb fun hw => hn (hW b hb hw), h.same⟩
theorem Fr.of {w w' : World} {W : Nat → Prop} (h1 : w'.os = w.os) (h2 : w'.tape = w.tape) (h3 : w'.output = w.output) (h4 : w.heap.size ≤ w'.heap.size) (h5 : ∀ b, b < w.heap.size → w'.heap[b]? = w.heap[b]?) : Fr w w' W :=
  ⟨h1, h2, h3, h4, fun b hb _ => h5 b hb, fun b hb => by simp only [Pam.bsz, h5 b hb]⟩

def callable (P : Program) (f : FuncId) : Prop := ∃ fn, P.funcs[f]? = some fn ∧ fn.body.isSome = true ∧ (fn.name == "runtime.NumGoroutine") = false

/-- What a function of the program answers. -/
def PC (P : Program) (f : FuncId) (args : List SV) (ext : List Ob) (r : SV) (ext' fs : List Ob) : Prop :=
  callable P f ∧ ∀ (w : World) (S : Nat → Prop) (β : Nat → Nat) (vals : Array Value), Rel w S β (resO ext []) → vals.size = args.length → (∀ i (hi : i < args.length), SR w S β (resO ext []) args[i] (vals.getD i undef)) →
    Calls P f vals w fun e w' => ∃ v S' β', e = .returned v ∧ Fr w w' (fun b => ∃ n, resO ext [] n ≠ none ∧ β n = b) ∧ (∀ b, S b → S' b) ∧ (∀ b, S' b → S b ∨ w.heap.size ≤ b ∨ ∃ i, i < ext.length ∧ b = β (X i)) ∧ (∀ i, i < ext.length → β' (X i) = β (X i)) ∧
      (∀ j, j < fs.length → w.heap.size ≤ β' (F j) ∨ ∃ i, i < ext.length ∧ β' (F j) = β (X i)) ∧ ext'.length = ext.length ∧ Rel w' S' β' (resG ext' fs) ∧ SR w' S' β' (resG ext' fs) r v

def GS (P : Program) (Γ : Gam) : Prop := ∀ g args ext r ext' fs, Γ g args ext = some (r, ext', fs) → PC P g args ext r ext' fs

section
variable {P : Program} {w : World} {S : Nat → Prop} {β : Nat → Nat} {O : Objs} {σ : Env} {a : Act} {o : Oper} {v : SV} {ann : Nat → Option Ann} {Γ : Gam}

theorem mapM_some {α γ : Type} {f : α → Option γ} {l : List α} {m : List γ} (h : l.mapM f = some m) : m.length = l.length ∧ ∀ i (hi : i < l.length) (hj : i < m.length), f l[i] = some m[i] := by
  induction l generalizing m with
  | nil => simp at h; subst h; exact ⟨rfl, fun i hi => by simp at hi⟩
  | cons x r ih =>
    simp only [List.mapM_cons] at h
    cases h1 : f x with
    | none => simp [h1] at h
    | some y =>
      cases h2 : r.mapM f with
      | none => simp [h1, h2] at h
      | some m' =>
        simp [h1, h2] at h; subst h
        obtain ⟨hl, hh⟩ := ih h2
        refine ⟨by simp [hl], fun i hi hj => ?_⟩
        cases i with
        | zero => exact h1
        | succ i => simpa using hh i (by simpa using hi) (by simpa using hj)

theorem refsL_nil {cs : List SV} (h : SV.refsL cs = []) {i : Nat} (hi : i < cs.length) : (cs[i]).refs = [] := by
  rw [List.eq_nil_iff_forall_not_mem] at h ⊢
  exact fun n hn => h n (refsL_mem hi hn)

theorem snap_rel {S2 : Nat → Prop} (hr : Rel w S β O) (hS : ∀ b, S b → S2 b) : ∀ (k : Nat) {sv : SV} {pv : PV} {x : Value}, (sv.refs = [] ∨ ∀ n, O n ≠ none → S2 (β n)) → SR w S β O sv x → snap O k sv = some pv → PR w S2 pv x := by
  intro k
  induction k with
  | zero =>
    intro sv pv x _ h hs
    cases sv <;> simp only [snap] at hs <;> first | (cases hs; done) | skip
    injection hs with hs; subst hs
    exact h.p_inv.mono fun b hb => ⟨hS b hb, rfl⟩
  | succ k ih =>
    intro sv pv x hQ h hs
    cases sv with
    | p v => simp only [snap, Option.some.injEq] at hs; subst hs; exact h.p_inv.mono fun b hb => ⟨hS b hb, rfl⟩
    | ag cs =>
      simp only [snap] at hs
      cases hm : cs.mapM (snap O k) with
      | none => simp [hm] at hs
      | some vs =>
        simp [hm] at hs; subst hs
        obtain ⟨hl, hh⟩ := mapM_some hm
        obtain ⟨xs, he, hn, hc⟩ := h.ag_inv
        subst he
        refine .agg _ _ (by omega) fun i hi => ih ?_ (hc i (by omega)) (hh i (by omega) hi)
        exact hQ.imp (fun e => refsL_nil (by simpa [SV.refs] using e) (by omega)) id
    | cl f p q =>
      simp only [snap] at hs
      cases hm : p.mapM (snap O k) with
      | none => simp [hm] at hs
      | some vs =>
        cases hm2 : q.mapM (snap O k) with
        | none => simp [hm, hm2] at hs
        | some us =>
          simp [hm, hm2] at hs; subst hs
          obtain ⟨hl, hh⟩ := mapM_some hm
          obtain ⟨hl2, hh2⟩ := mapM_some hm2
          obtain ⟨va, vc, he, h1, h2, h3, h4⟩ := h.cl_inv
          subst he
          refine .fn f _ _ va vc (by omega) (by omega) (fun i hi => ih ?_ (h3 i (by omega)) (hh i (by omega) hi)) (fun i hi => ih ?_ (h4 i (by omega)) (hh2 i (by omega) hi))
          · refine hQ.imp (fun e => ?_) id
            simp only [SV.refs, List.append_eq_nil_iff] at e
            exact refsL_nil e.1 (by omega)
          · refine hQ.imp (fun e => ?_) id
            simp only [SV.refs, List.append_eq_nil_iff] at e
            exact refsL_nil e.2 (by omega)
    | bx n off =>
      have hQ' := hQ.resolve_left (by simp [SV.refs])
      simp only [snap] at hs
      split at hs
      · rename_i cs hm
        cases hv : (cs.drop off).mapM (snap O k) with
        | none => simp [hv] at hs
        | some vs =>
          simp [hv] at hs; subst hs
          obtain ⟨hl, hh⟩ := mapM_some hv
          obtain ⟨he, _⟩ := h.bx_inv (by rw [hm]; simp)
          subst he
          obtain ⟨c, ty, hb, hsz, hc⟩ := hr.obj n _ hm
          have hl' : vs.length = cs.length - off := by simpa using hl
          refine .cp vs (β n) off (fun i => c.getD (off + i) undef) (hQ' n (by rw [hm]; simp)) (fun i hi => cell_of hb _ (by omega)) fun i hi => ?_
          have h1 := hh i (by omega) hi
          rw [List.getElem_drop] at h1
          exact ih (.inr hQ') (hc (off + i) (by omega)) h1
      · cases hs
    | ar n =>
      have hQ' := hQ.resolve_left (by simp [SV.refs])
      simp only [snap] at hs
      split at hs
      · rename_i sz xs hm
        injection hs with hs; subst hs
        obtain ⟨_, _, cap, hm', he, h1, h2⟩ := h.ar_inv (by rw [hm]; simp)
        rw [hm] at hm'; cases hm'
        subst he
        obtain ⟨c, ty, hb, hsz, hlen, hc⟩ := hr.obj n _ hm
        exact .sl sz xs (β n) 0 _ cap (fun i => c.getD i undef) rfl h1 (hQ' n (by rw [hm]; simp)) hsz (fun i hi => by rw [Nat.zero_add]; exact cell_of hb _ (by omega)) fun i hi => (hc i hi).mono fun b hb => ⟨hS b hb, rfl⟩
      · cases hs
    | sub n lo hi0 =>
      have hQ' := hQ.resolve_left (by simp [SV.refs])
      simp only [snap] at hs
      split at hs
      · rename_i sz xs hm
        injection hs with hs; subst hs
        obtain ⟨_, _, off, cap, hm', he, h1, h2, h3, h4⟩ := h.sub_inv (by rw [hm]; simp)
        rw [hm] at hm'; cases hm'
        subst he
        obtain ⟨c, ty, hb, hsz, hlen, hc⟩ := hr.obj n _ hm
        refine PR.cut (off := 0) (vals := fun i => c.getD i undef) (hQ' n (by rw [hm]; simp)) hsz (fun i hi => by rw [Nat.zero_add]; exact cell_of hb _ (by omega)) (fun i hi => (hc i hi).mono fun b hb => ⟨hS b hb, rfl⟩) h1 h2 (fun g => by rw [h4 g]; omega) h3
      · cases hs
    | mp n =>
      have hQ' := hQ.resolve_left (by simp [SV.refs])
      simp only [snap] at hs
      split at hs
      · rename_i es hm
        injection hs with hs; subst hs
        obtain ⟨he, _⟩ := h.mp_inv (by rw [hm]; simp)
        subst he
        obtain ⟨en, ck, hb, hsz, hk, hv⟩ := hr.obj n _ hm
        exact .mapv es (β n) ck en (hQ' n (by rw [hm]; simp)) hb hsz (fun i hi => (hk i hi).mono fun b hb => ⟨hS b hb, rfl⟩) (fun i hi => (hv i hi).mono fun b hb => ⟨hS b hb, rfl⟩)
      · cases hs
    | el n i j =>
      have hQ' := hQ.resolve_left (by simp [SV.refs])
      simp only [snap] at hs
      split at hs
      · rename_i s xs hm
        cases hx : xs[i]? with
        | none => simp [hx] at hs
        | some e =>
          simp [hx] at hs; subst hs
          obtain ⟨hie, hee⟩ := List.getElem?_eq_some_iff.1 hx
          obtain ⟨_, _, hm', he, hi⟩ := h.el_inv (by rw [hm]; simp)
          rw [hm] at hm'; cases hm'
          subst he
          obtain ⟨c, ty, hb, hsz, hlen, hc⟩ := hr.obj n _ hm
          have hes : e.cells.length = s := by rw [← hee]; exact hsz _ (List.getElem_mem hie)
          have hfl := flat_length hsz
          have hin : ∀ q, q < s → i * s + q < (flat xs).length := fun q hq => by
            rw [hfl]
            calc i * s + q < i * s + s := by omega
              _ = (i + 1) * s := by rw [Nat.succ_mul]
              _ ≤ xs.length * s := Nat.mul_le_mul_right _ (by omega)
          refine .cp _ (β n) _ (fun q => c.getD (i * s + (j + q)) undef) (hQ' n (by rw [hm]; simp)) (fun q hq => ?_) (fun q hq => ?_)
          · rw [Nat.add_assoc]; exact cell_of hb _ (by have := hin (j + q) (by simp at hq; omega); omega)
          · have hq' : j + q < s := by simp at hq; omega
            have h1 := (hc _ (hin (j + q) hq')).mono (S' := S2) (w' := w) fun b hb => ⟨hS b hb, rfl⟩
            rw [flat_get hsz i (j + q) hie hq'] at h1
            simpa [hee] using h1
      · cases hs
    | tp _ => simp [snap] at hs
    | un => simp [snap] at hs
    | junk => simp [snap] at hs

mutual
theorem PR.scal_any {S2 : Nat → Prop} : ∀ (v : PV) {x : Value}, v.scal = true → PR w S v x → PR w S2 v x
  | .bool _, _, _, h => by cases h; exact .bool _
  | .int _ _, _, _, h => by cases h; exact .int _ _
  | .str _, _, _, h => by cases h; exact .str _
  | .nilsl, _, _, h => by cases h; exact .nilsl
  | .np, _, _, h => by cases h; exact .np
  | .nilfn, _, _, h => by cases h; exact .nilfn
  | .nilmap, _, _, h => by cases h; exact .nilmap
  | .agg cs, _, hs, h => by
    cases h with
    | agg _ vs hn h => exact .agg cs vs hn fun i hi => PR.scalL_any cs (by simpa [PV.scal] using hs) i hi (h i hi)
  | .sl _ _, _, hs, _ => by simp [PV.scal] at hs
  | .cp _, _, hs, _ => by simp [PV.scal] at hs
  | .fn _ _ _, _, hs, _ => by simp [PV.scal] at hs
  | .mapv _, _, hs, _ => by simp [PV.scal] at hs
  | .wh _ _, _, hs, _ => by simp [PV.scal] at hs
  | .li _ _, _, hs, _ => by simp [PV.scal] at hs
  | .tok _, _, hs, _ => by simp [PV.scal] at hs
theorem PR.scalL_any {S2 : Nat → Prop} : ∀ (cs : List PV), PV.scalL cs = true → ∀ i (hi : i < cs.length) {x : Value}, PR w S cs[i] x → PR w S2 cs[i] x
  | [], _, i, hi, _, _ => by simp at hi
  | c :: cs, hs, 0, _, _, h => by simp only [PV.scalL, Bool.and_eq_true] at hs; exact PR.scal_any c hs.1 h
  | c :: cs, hs, i + 1, hi, _, h => by simp only [PV.scalL, Bool.and_eq_true] at hs; exact PR.scalL_any cs hs.2 i (by simpa using hi) h
end

theorem scal_cells {v : PV} (h : v.scal = true) : ∀ c ∈ v.cells, c.scal = true := by
  cases v <;> simp only [PV.cells, List.mem_singleton, forall_eq] <;> first | exact h | skip
  rename_i cs
  intro c hc
  simp only [PV.scal] at h
  induction cs with
  | nil => simp at hc
  | cons x r ih =>
    simp only [PV.scalL, Bool.and_eq_true] at h
    rcases List.mem_cons.1 hc with rfl | hc
    · exact h.1
    · exact ih h.2 hc
theorem scal_flat {xs : List PV} (h : xs.all PV.scal = true) : ∀ c ∈ flat xs, c.scal = true := by
  intro c hc
  simp only [flat, List.mem_flatMap] at hc
  obtain ⟨x, hx, hc⟩ := hc
  exact scal_cells (List.all_eq_true.1 h x hx) c hc
end
end Go.Proofs.YtpobnchalcokoaaDoor.Pam
