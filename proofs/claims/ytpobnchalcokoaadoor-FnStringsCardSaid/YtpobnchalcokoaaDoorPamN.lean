/- A part of the proof that stands in this folder: a small machine whose steps are shown to be the steps of the model, or walks of functions by it. No condition of its own. -/
import Derived.Test.YtpobnchalcokoaaDoorPamM
import Derived.Laws.AppendOwn
set_option linter.unusedVariables false
set_option linter.unusedSimpArgs false
namespace Go.Proofs.YtpobnchalcokoaaDoor.Pam
open Go

section
variable {P : Program} {w w' w1 : World} {S S' S2 : Nat → Prop} {β β' : Nat → Nat} {O O' : Objs} {σ σ' : Env} {a : Act} {o : Oper} {v : SV} {ann : Nat → Option Ann} {Γ : Gam} {tmps : Array Value} {K : Act → World → Prop} {Q : Exit → Act → World → Prop}

theorem freezeAll_rel : ∀ (ns : List Nat) {S : Nat → Prop} {O : Objs} {σ : Env}, Rel w S β O → Slots w S β O σ tmps → ∃ S', (∀ b, S b → S' b) ∧ (∀ b, S' b → S b ∨ ∃ n, O n ≠ none ∧ β n = b) ∧ (∀ n, (freezeAll ns (σ, O)).2 n ≠ none → O n ≠ none) ∧
    Rel w S' β (freezeAll ns (σ, O)).2 ∧ Slots w S' β (freezeAll ns (σ, O)).2 (freezeAll ns (σ, O)).1 tmps := by
  intro ns
  induction ns with
  | nil => intro S O σ hr hs; exact ⟨S, fun _ h => h, fun _ h => .inl h, fun _ h => h, hr, hs⟩
  | cons n ns ih =>
    intro S O σ hr hs
    have hS : ∀ b, S b → S b ∨ (O n ≠ none ∧ b = β n) := fun _ h => .inl h
    have hr1 := hr.freeze (S2 := fun b => S b ∨ (O n ≠ none ∧ b = β n)) (n := n) (q := O n) (.inr rfl) hS (fun h => .inr ⟨h, rfl⟩) (fun _ h => h)
    have hs1 : Slots w (fun b => S b ∨ (O n ≠ none ∧ b = β n)) β (freezeO n (O n) O) (freezeE n (O n) σ) tmps := fun i => (hs i).freeze hr (.inr rfl) hS (fun h => .inr ⟨h, rfl⟩)
    obtain ⟨S', h1, h2, h3, h4, h5⟩ := ih hr1 hs1
    have hne : ∀ m, freezeO n (O n) O m ≠ none → O m ≠ none := fun m hm => by
      rcases freezeO_cases n (O n) O m with ⟨_, e⟩ | ⟨_, ⟨_, e⟩ | ⟨ob, h2, _⟩⟩
      · exact absurd e hm
      · exact absurd e hm
      · rw [h2]; simp
    refine ⟨S', fun b hb => h1 b (.inl hb), fun b hb => ?_, fun m hm => hne m (h3 m hm), h4, h5⟩
    rcases h2 b hb with (h | ⟨g1, g2⟩) | ⟨m, g1, g2⟩
    · exact .inl h
    · exact .inr ⟨n, g1, g2.symm⟩
    · exact .inr ⟨m, hne m g1, g2⟩

theorem parts2_rel {n : Nat} {sz : Nat} (hs : Slots w S β O σ a.tmps) : ∀ {ps : List (Nat × Operand)} {ps' : List (Nat × Od)} {xs xs' : List PV} {C : Array Value}, parts2Of ps = some ps' → xs.length = n → (∀ x ∈ xs, x.cells.length = sz) → CR w S β O ((flat xs).map .p) C → partsA (ev σ) sz ps' xs = some xs' →
    ∃ C', Instr.fill (fun i => some (i * sz, sz)) C (ps.map fun p => (p.1, a.eval p.2)) = some C' ∧ CR w S β O ((flat xs').map .p) C' ∧ (∀ x ∈ xs', x.cells.length = sz) ∧ xs'.length = n := by
  intro ps
  induction ps with
  | nil => intro ps' xs xs' C h1 hn hsz h2 h3; simp [parts2Of] at h1; subst h1; simp [partsA] at h3; subst h3; exact ⟨C, rfl, h2, hsz, hn⟩
  | cons p r ih =>
    obtain ⟨i, x⟩ := p
    intro ps' xs xs' C h1 hn hsz h2 h3
    simp only [parts2Of] at h1
    cases hx : odOf x with
    | none => simp [hx] at h1
    | some x' =>
      cases hr : parts2Of r with
      | none => simp [hx, hr] at h1
      | some r' =>
        simp [hx, hr] at h1; subst h1
        simp only [partsA] at h3
        cases hc : elemOf sz (ev σ x') with
        | none => simp [hc] at h3
        | some u =>
          simp only [hc] at h3
          split at h3
          · rename_i hi
            obtain ⟨hp, hu⟩ := elemOf_rel (od_rel hs hx) hc
            obtain ⟨hv1, hv2⟩ := hp.cells
            have hv : CR w S β O (u.cells.map .p) (a.eval x).cells := ⟨by simpa using hv1, fun k hk => by simpa using SR.p _ _ (hv2 k (by simpa using hk))⟩
            have hput := h2.put hv (off := i * sz)
            have hfl := flat_length hsz
            have hend : i * sz + sz ≤ (flat xs).length := by
              rw [hfl]
              calc i * sz + sz = (i + 1) * sz := by rw [Nat.succ_mul]
                _ ≤ xs.length * sz := Nat.mul_le_mul_right _ (by omega)
            have hxi : (xs[i]).cells.length = sz := hsz _ (List.getElem_mem hi)
            have hset := flat_set hsz hi (e := u) (r := u.cells) (j := 0) (by simp; omega) (by omega)
            simp only [Nat.add_zero] at hset
            have e1 : putCells ((flat xs).map .p) (i * sz) (u.cells.map .p) = (flat (xs.set i u)).map .p := by
              rw [putCells_eq _ _ _ (by simp; omega), hset]
              simp [List.map_take, List.map_drop]
            rw [e1] at hput
            have hsz' : ∀ q ∈ xs.set i u, q.cells.length = sz := fun q hq => by
              rcases List.mem_or_eq_of_mem_set hq with h | h
              · exact hsz q h
              · rw [h]; exact hu
            obtain ⟨C', hf, hC', hz, hl⟩ := ih hr (by simpa using hn) hsz' hput h3
            refine ⟨C', ?_, hC', hz, hl⟩
            have e2 : (a.eval x).cells.size = sz := by rw [hv1]; exact hu
            have e3 : C.size = (flat xs).length := by simpa using h2.1
            simp only [List.map_cons, Instr.fill]
            rw [if_neg (by simp [e2]; omega)]
            exact hf
          · cases h3

theorem sim_bslice {t e : TypeId} {n sz : Nat} {ps : Array (Nat × Operand)} {ps' : List (Nat × Od)} {z : PV} (hr : Rel w S β O) (hs : Slots w S β O σ a.tmps) (ho : o.op = .buildSlice t n ps) (ht : tyElem P t = some e) (hsz : tySz P e = some sz) (hz : tyZero P e = some z) (hps : parts2Of ps.toList = some ps')
    (hb : n * sz ≤ 16777216) (h0 : 0 < sz) (hzl : z.cells.length = sz) (hdb : ∀ d, o.dst = some d → d < 1000000) (hd : stepW Γ o.dst σ O (.bslice sz (List.replicate n z) ps') = some (v, σ', O')) (hK : WK w S β O O' σ' a o v K) : o.wp P a w K Q := by
  have hu : P.underlying t = some (.slice e) := by
    unfold tyElem at ht; split at ht
    · rename_i h; injection ht with ht; subst ht; exact h
    · cases ht
  simp only [stepW] at hd
  cases hdst : o.dst with
  | none => simp [hdst] at hd
  | some d =>
    simp only [hdst] at hd
    obtain ⟨S1, g1, g2, g3, hr1, hs1⟩ := freezeAll_rel (SV.refsL (ps'.map fun p => ev σ p.2)) hr hs
    generalize hfa : freezeAll (SV.refsL (ps'.map fun p => ev σ p.2)) (σ, O) = fa at hd hr1 hs1 g3
    cases hpa : partsA (ev fa.1) sz ps' (List.replicate n z) with
    | none => simp [hpa] at hd
    | some xs =>
      simp only [hpa] at hd
      injection hd with hd
      have hv : v = .ar d := by have := congrArg (·.1) hd; simpa [newA] using this.symm
      have h1 : σ' = (newA d (.arr sz xs) .un fa.1 fa.2).2.1 := by have := congrArg (·.2.1) hd; simpa [newA] using this.symm
      have h2 : O' = (newA d (.arr sz xs) .un fa.1 fa.2).2.2 := by have := congrArg (·.2.2) hd; simpa [newA] using this.symm
      subst hv; subst h1; subst h2
      obtain ⟨zv, hzr, hzp⟩ := run_zero (w := w) hz
      obtain ⟨_, ty0, hm0, hszs, hle, hrel⟩ := made_zero (S := S1) (β := β) (O := fa.2) (n := n) (ofVal_rel (w := w) hzp) hzl 0 (w.alloc (.cells (madeCells zv.cells (n * sz)) 0)) w.heap.size (heap_alloc_new w _)
      rw [heap_alloc_new] at hm0
      injection hm0 with hm0; injection hm0 with hm1 hm2
      subst hm1
      have hfl := flat_length hszs
      rw [List.length_replicate] at hfl
      have hcr : CR w S1 β fa.2 ((flat (List.replicate n z)).map .p) (madeCells zv.cells (n * sz)) := ⟨by simp [hfl, size_madeCells], fun i hi => by simpa using SR.p _ _ (hrel i (by simpa using hi))⟩
      obtain ⟨C', hfill, hC', hz', hl'⟩ := parts2_rel (n := n) hs1 hps (by simp) hszs hcr hpa
      have hfl' := flat_length hz'
      rw [hl'] at hfl'
      have hC : C'.size = n * sz := by have := hC'.1; simp at this; omega
      have hrun : (execOp a.eval o).run P w = .ok (.value (.slice (some ⟨w.heap.size, 0, none⟩) n n)) (w.alloc (.cells C' e)) := by
        have hpl : (ps.map fun (i, x) => (i, a.eval x)).toList = ps.toList.map fun p => (p.1, a.eval p.2) := by simp
        simp only [execOp, ho, Instr.buildSlice, Sem.run_bind, run_underlying hu, Result.andThen_ok, run_sz hsz]
        rw [if_neg (by omega)]
        by_cases h : n * sz = 0
        · have hmade : (Array.range (n * sz)).map (fun k => (#[] : Array Value)[k % (#[] : Array Value).size]!) = madeCells zv.cells (n * sz) := by
            simp [h, madeCells]
          rw [if_pos h]
          simp only [pure_bind]
          rw [hmade, hpl, hfill]
          simp [newRow]
        · have hmade : (Array.range (n * sz)).map (fun k => zv.cells[k % zv.cells.size]!) = madeCells zv.cells (n * sz) := by
            simp [madeCells]
          rw [if_neg h]
          simp only [pure_bind, Sem.run_bind, hzr, Result.andThen_ok]
          rw [hmade, hpl, hfill]
          simp [newRow]
      obtain ⟨S', β', hβ, hstep, hrel', hsl⟩ := newA_rel (d := d) (b0 := w.heap.size) (ob := .arr sz xs) hr1 hs1 (hdb d hdst) (Fr.alloc w (.cells C' e)) (Nat.le_refl _) (by simp) ⟨C', e, heap_alloc_new w _, hz', by omega, fun i hi => by
        have := hC'.2 i (by simpa using hi)
        simpa using (by simpa using this : SR w S1 β fa.2 (.p (flat xs)[i]) _).p_inv⟩
      unfold Oper.wp
      rw [hrun, Oper.upon_value]
      have hst0 : Step w w S S1 β β O fa.2 := ⟨Fr.refl _ _, g1, fun b hb => (g2 b hb).imp id .inl, fun _ => rfl, fun k hk _ => ⟨k, g3 k hk, rfl⟩⟩
      refine hK _ _ S' β' (hst0.trans hr1 hstep) hrel' hsl ?_
      have hsr := SR.ar (w := w.alloc (.cells C' e)) (S := S') (β := β') (O := (newA d (.arr sz xs) .un fa.1 fa.2).2.2) d sz n xs (by simp [newA, setO, Ob.tr]) (by omega) (by rw [hβ, bsz_cells (heap_alloc_new w _), hC]; exact Nat.le_refl _)
      rw [hβ, hl'] at hsr
      exact hsr
theorem flat_allInt {xs : List PV} (h : (xs.all PV.isInt) = true) : flat xs = xs := by
  induction xs with
  | nil => rfl
  | cons x r ih =>
    simp only [List.all_cons, Bool.and_eq_true] at h
    have := ih h.2
    unfold flat at this ⊢
    rw [List.flatMap_cons, this]
    cases x <;> first | rfl | simp [PV.isInt] at h

theorem PR.tok_inv {A : Nat → Prop} {x : Value} (h : PR w S (.tok A) x) : ∀ b, A b → S b := by
  cases h with | tok _ hA => exact hA
theorem PR.int_inv' {k : IntKind} {n : Int} {x : Value} (h : PR w S (.int k n) x) : x = .int k n := by
  cases h; rfl
/-- A list whose number is told is named as one that lies apart. -/
theorem sim_bsliceW {t e : TypeId} {n sz tk u : Nat} {ps : Array (Nat × Operand)} {ps' : List (Nat × Od)} {z : PV} (hr : Rel w S β O) (hs : Slots w S β O σ a.tmps) (ho : o.op = .buildSlice t n ps) (ht : tyElem P t = some e) (hsz : tySz P e = some sz) (hz : tyZero P e = some z) (hps : parts2Of ps.toList = some ps')
    (hb : n * sz ≤ 16777216) (h0 : 0 < sz) (hzl : z.cells.length = sz) (hdb : ∀ d, o.dst = some d → d < 1000000) (hd : stepW Γ o.dst σ O (.bsliceW tk u sz (List.replicate n z) ps') = some (v, σ', O')) (hK : WK w S β O O' σ' a o v K) : o.wp P a w K Q := by
  simp only [stepW] at hd
  split at hd
  case h_2 => cases hd
  rename_i d A m hdst htk hu
  split at hd
  case h_2 => cases hd
  rename_i xs hm
  split at hd
  case isFalse => cases hd
  rename_i hint
  have htok := hs tk
  rw [htk] at htok
  have hA : ∀ b, A b → S b := htok.p_inv.tok_inv
  have har := hs u
  rw [hu] at har
  obtain ⟨sz', xs', cap, h1, h2, h3, h4⟩ := har.ar_inv (by rw [hm]; simp)
  rw [hm] at h1
  injection h1 with h1; injection h1 with e1 e2; subst e1; subst e2
  obtain ⟨c, ty, hbl, _, hlen, hcells⟩ := hr.obj m _ hm
  rw [bsz_cells hbl] at h4
  have hOm : O m ≠ none := by rw [hm]; simp
  have hfl := flat_allInt hint
  have hS2 : ∀ b, S b → S b ∨ (O m ≠ none ∧ b = β m) := fun _ h => .inl h
  have hr1 := hr.freeze (S2 := fun b => S b ∨ (O m ≠ none ∧ b = β m)) (n := m) (q := O m) (.inr rfl) hS2 (fun h => .inr ⟨h, rfl⟩) (fun _ h => h)
  have hs1 : Slots w (fun b => S b ∨ (O m ≠ none ∧ b = β m)) β (freezeO m (O m) O) (put (some u) (.p (.wh A xs)) (freezeE m (O m) σ)) a.tmps := fun i => by
    by_cases hi : i = u
    · subst hi
      have e : put (some i) (SV.p (.wh A xs)) (freezeE m (O m) σ) i = .p (.wh A xs) := by simp [put]
      rw [e, h2]
      refine .p _ _ (.wh A xs (β m) xs.length cap c ty rfl h3 (.inr ⟨hOm, rfl⟩) (fun h => (hr.sep _ (hA _ h)).2 m hOm rfl) hbl (by omega) fun i hi => ?_)
      have hx := hcells i (by rw [hfl]; exact hi)
      have hxi := (List.all_eq_true.1 hint) xs[i] (List.getElem_mem hi)
      have e : (flat xs)[i]'(by rw [hfl]; exact hi) = xs[i] := by simp only [hfl]
      rw [e] at hx
      cases hx0 : xs[i] with
      | int k n => rw [hx0] at hx; exact ⟨k, n, rfl, hx.int_inv'⟩
      | _ => rw [hx0] at hxi; simp [PV.isInt] at hxi
    · have e : put (some u) (SV.p (.wh A xs)) (freezeE m (O m) σ) i = freezeE m (O m) σ i := by simp [put, hi]
      rw [e]
      exact (hs i).freeze hr (.inr rfl) hS2 (fun h => .inr ⟨h, rfl⟩)
  have hst0 : Step w w S (fun b => S b ∨ (O m ≠ none ∧ b = β m)) β β O (freezeO m (O m) O) := ⟨Fr.refl _ _, hS2, fun b hb => hb.imp id fun h => .inl ⟨m, h.1, h.2.symm⟩, fun _ => rfl, fun k hk _ => ⟨k, by
    rcases freezeO_cases m (O m) O k with ⟨_, e⟩ | ⟨_, ⟨_, e⟩ | ⟨ob, h2, _⟩⟩
    · exact absurd e hk
    · exact absurd e hk
    · rw [h2]; simp, rfl⟩⟩
  refine sim_bslice hr1 hs1 ho ht hsz hz hps hb h0 hzl hdb (Γ := Γ) (by simp only [stepW, hdst]; exact hd) fun x w' S' β' hst hr' hs' hv => hK x w' S' β' (hst0.trans hr1 hst) hr' hs' hv
end
end Go.Proofs.YtpobnchalcokoaaDoor.Pam
