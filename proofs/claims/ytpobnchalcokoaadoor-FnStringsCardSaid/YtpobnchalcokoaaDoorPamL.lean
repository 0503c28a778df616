/- A part of the proof that stands in this folder: a small machine whose steps are shown to be the steps of the model, or walks of functions by it. No condition of its own. -/
import Derived.Test.YtpobnchalcokoaaDoorPamK
import Derived.Laws.MakeOwn
import Derived.Laws.OwnMore
set_option linter.unusedVariables false
set_option linter.unusedSimpArgs false
namespace Go.Proofs.YtpobnchalcokoaaDoor.Pam
open Go

def WK (w : World) (S : Nat → Prop) (β : Nat → Nat) (O O' : Objs) (σ' : Env) (a : Act) (o : Oper) (v : SV) (K : Act → World → Prop) : Prop :=
  ∀ x w' S' β', Step w w' S S' β β' O O' → Rel w' S' β' O' → Slots w' S' β' O' σ' a.tmps → SR w' S' β' O' v x → K (a.put o.dst x) w'

section
variable {P : Program} {w w' w1 : World} {S S' S2 : Nat → Prop} {β β' : Nat → Nat} {O O' : Objs} {σ σ' : Env} {a : Act} {o : Oper} {v : SV} {ann : Nat → Option Ann} {Γ : Gam} {tmps : Array Value} {K : Act → World → Prop} {Q : Exit → Act → World → Prop}

theorem Fr.alloc (w : World) (ob : Obj) : Fr w (w.alloc ob) fun _ => False := Fr.of rfl rfl rfl (by simp) fun b hb => Go.RowKit.Below.heap_alloc w ob b hb
theorem Fr.drew_alloc (w : World) (ob : Obj) : Fr w (w.drew.alloc ob) fun _ => False := Fr.of rfl rfl rfl (by simp) fun b hb => Go.RowKit.Below.heap_alloc w.drew ob b hb

/-- A new object, and the value that leads to it. -/
theorem made_wp {d b0 : Nat} {ob : Ob} {x : Value} (hr : Rel w S β O) (hs : Slots w S β O σ a.tmps) (hd : d < 1000000) (hf : Fr w w1 fun _ => False) (hb : w.heap.size ≤ b0) (hb1 : b0 < w1.heap.size) (hmade : Made w w1 S β O b0 ob)
    (hrun : (execOp a.eval o).run P w = .ok (.value x) w1) (hx : ∀ S' β', β' d = b0 → SR w1 S' β' (newA d ob .un σ O).2.2 v x) (hK : WK w S β O (newA d ob .un σ O).2.2 (newA d ob .un σ O).2.1 a o v K) : o.wp P a w K Q := by
  obtain ⟨S', β', h0, h1, h2, h3⟩ := newA_rel hr hs hd hf hb hb1 hmade
  unfold Oper.wp
  rw [hrun, Oper.upon_value]
  exact hK x w1 S' β' h1 h2 h3 (hx S' β' h0)

theorem sim_alloc {t : TypeId} {z : PV} (hr : Rel w S β O) (hs : Slots w S β O σ a.tmps) (ho : o.op = .alloc t) (hz : tyZero P t = some z) (hdb : ∀ d, o.dst = some d → d < 1000000) (hd : stepW Γ o.dst σ O (.alloc z.cells) = some (v, σ', O'))
    (hK : WK w S β O O' σ' a o v K) : o.wp P a w K Q := by
  simp only [stepW] at hd
  cases hdst : o.dst with
  | none => simp [hdst] at hd
  | some d =>
    simp [hdst] at hd
    obtain ⟨zv, hzr, hzp⟩ := run_zero (w := w) hz
    have hv : v = .bx d 0 := by have := congrArg (·.1) hd; simpa [newA] using this.symm
    have h1 : σ' = (newA d (.box (z.cells.map .p)) .un σ O).2.1 := by have := congrArg (·.2.1) hd; simpa [newA] using this.symm
    have h2 : O' = (newA d (.box (z.cells.map .p)) .un σ O).2.2 := by have := congrArg (·.2.2) hd; simpa [newA] using this.symm
    subst hv; subst h1; subst h2
    refine made_wp (ob := .box (z.cells.map .p)) hr hs (hdb d hdst) (Fr.alloc w (.cells zv.cells t)) (Nat.le_refl _) (by simp) ⟨zv.cells, t, heap_alloc_new w _, CR.zero (ofVal_rel hzp)⟩ (x := .pointer (some ⟨w.heap.size, 0, none⟩)) ?_ (fun S' β' hb => ?_) hK
    · simp [execOp, ho, Instr.alloc, hzr, newVar, newRow]
    · rw [← hb]; exact .bx d 0 (SV.trL (fz d (O d)) (z.cells.map .p)) (by simp [newA, setO, Ob.tr])

theorem sim_mkmap {t : TypeId} (hr : Rel w S β O) (hs : Slots w S β O σ a.tmps) (ho : o.op = .makeMap t none) (hdb : ∀ d, o.dst = some d → d < 1000000) (hd : stepW Γ o.dst σ O .mkmap = some (v, σ', O'))
    (hK : WK w S β O O' σ' a o v K) : o.wp P a w K Q := by
  simp only [stepW] at hd
  cases hdst : o.dst with
  | none => simp [hdst] at hd
  | some d =>
    simp [hdst] at hd
    have hv : v = .mp d := by have := congrArg (·.1) hd; simpa [newA] using this.symm
    have h1 : σ' = (newA d (.map []) .un σ O).2.1 := by have := congrArg (·.2.1) hd; simpa [newA] using this.symm
    have h2 : O' = (newA d (.map []) .un σ O).2.2 := by have := congrArg (·.2.2) hd; simpa [newA] using this.symm
    subst hv; subst h1; subst h2
    refine made_wp (ob := .map []) hr hs (hdb d hdst) (Fr.alloc w (.map #[] 0)) (Nat.le_refl _) (by simp) ⟨rfl, 0, heap_alloc_new w _⟩ (x := .map (some w.heap.size)) ?_ (fun S' β' hb => ?_) hK
    · simp [execOp, ho, Instr.makeMap]
    · rw [← hb]; exact .mp d [] (by simp [newA, setO, Ob.tr])

theorem sim_box {t : TypeId} {x : Operand} {x' : Od} {n : Nat} (hr : Rel w S β O) (hs : Slots w S β O σ a.tmps) (ho : o.op = .box t x) (hx : odOf x = some x') (hdb : ∀ d, o.dst = some d → d < 1000000) (hd : stepW Γ o.dst σ O (.box n x') = some (v, σ', O'))
    (hK : WK w S β O O' σ' a o v K) : o.wp P a w K Q := by
  simp only [stepW] at hd
  cases hdst : o.dst with
  | none => simp [hdst] at hd
  | some d =>
    simp only [hdst] at hd
    cases hc : cellsA O (ev σ x') with
    | none => simp [hc] at hd
    | some cs =>
      simp only [hc] at hd
      split at hd
      · injection hd with hd
        have hv : v = .bx d 0 := by have := congrArg (·.1) hd; simpa [newA] using this.symm
        have h1 : σ' = (newA d (.box cs) .un σ O).2.1 := by have := congrArg (·.2.1) hd; simpa [newA] using this.symm
        have h2 : O' = (newA d (.box cs) .un σ O).2.2 := by have := congrArg (·.2.2) hd; simpa [newA] using this.symm
        subst hv; subst h1; subst h2
        refine made_wp (ob := .box cs) hr hs (hdb d hdst) (Fr.alloc w (.cells (a.eval x).cells t)) (Nat.le_refl _) (by simp) ⟨(a.eval x).cells, t, heap_alloc_new w _, cellsA_rel (od_rel hs hx) hc⟩ (x := .pointer (some ⟨w.heap.size, 0, none⟩)) ?_ (fun S' β' hb => ?_) hK
        · simp [execOp, ho, Instr.box, newVar, newRow]
        · rw [← hb]; exact .bx d 0 (SV.trL (fz d (O d)) cs) (by simp [newA, setO, Ob.tr])
      · cases hd

theorem flat_rep (z : PV) (n : Nat) {sz : Nat} (hz : z.cells.length = sz) (i : Nat) (hi : i < (flat (List.replicate n z)).length) : (flat (List.replicate n z))[i] = z.cells[i % sz]'(by
    have hlen := flat_length (sz := sz) (xs := List.replicate n z) (fun x hx => by rw [(List.mem_replicate.1 hx).2]; exact hz)
    rw [hlen] at hi
    rw [hz]; exact Nat.mod_lt _ (Nat.pos_of_ne_zero fun h => by simp [h] at hi)) := by
  have hall : ∀ x ∈ List.replicate n z, x.cells.length = sz := fun x hx => by rw [(List.mem_replicate.1 hx).2]; exact hz
  have hlen := flat_length hall
  have hsz : 0 < sz := by
    rcases Nat.eq_zero_or_pos sz with h | h
    · rw [hlen] at hi; simp [h] at hi
    · exact h
  have hq : i / sz < (List.replicate n z).length := by
    rw [hlen] at hi
    exact Nat.div_lt_of_lt_mul (by rw [Nat.mul_comm]; exact hi)
  have e : i / sz * sz + i % sz = i := by rw [Nat.mul_comm]; exact Nat.div_add_mod i sz
  have := flat_get hall (i / sz) (i % sz) hq (Nat.mod_lt _ hsz) (by rw [e]; exact hi)
  simp only [e] at this
  rw [this]
  simp

theorem made_zero {z : PV} {zv : Value} (hz : PR w S z zv) {n sz : Nat} (hsz : z.cells.length = sz) (ty : TypeId) (w1 : World) (b0 : Nat) (h : w1.heap[b0]? = some (.cells (madeCells zv.cells (n * sz)) ty (0, 0))) : Made w w1 S β O b0 (.arr sz (List.replicate n z)) := by
  have hall : ∀ x ∈ List.replicate n z, x.cells.length = sz := fun x hx => by rw [(List.mem_replicate.1 hx).2]; exact hsz
  have hlen := flat_length hall
  rw [List.length_replicate] at hlen
  obtain ⟨hc1, hc2⟩ := hz.cells
  refine ⟨_, ty, h, hall, by rw [hlen]; simp [madeCells], fun i hi => ?_⟩
  rw [flat_rep z n hsz i hi]
  have hi' : i < n * sz := by rw [hlen] at hi; exact hi
  have hsz0 : 0 < sz := Nat.pos_of_ne_zero fun h => by simp [h] at hi'
  have hm : i % sz < zv.cells.size := by rw [hc1, hsz]; exact Nat.mod_lt _ hsz0
  have := hc2 (i % sz) (by rw [hsz]; exact Nat.mod_lt _ hsz0)
  have e : (madeCells zv.cells (n * sz)).getD i undef = zv.cells.getD (i % sz) undef := by
    simp [madeCells, hi', hc1, hsz, getElem!_pos zv.cells (i % sz) hm, Array.getElem?_eq_getElem hm]
  rw [e]; exact this

theorem sim_mkslice {t e : TypeId} {l : Tmp} {i : TypeInfo} {z : PV} (hr : Rel w S β O) (hs : Slots w S β O σ a.tmps) (ho : o.op = .makeSlice t (.tmp l) (.tmp l)) (ht : P.underlying t = some (.slice e)) (hi : P.info? e = some i) (hz : tyZero P e = some z)
    (hb : i.bytes ≤ 65536) (hsz : z.cells.length = i.size) (hdb : ∀ d, o.dst = some d → d < 1000000) (hd : stepW Γ o.dst σ O (.mkslice i.size z (.t l)) = some (v, σ', O')) (hK : WK w S β O O' σ' a o v K) : o.wp P a w K Q := by
  simp only [stepW] at hd
  cases hdst : o.dst with
  | none => simp [hdst] at hd
  | some d =>
    simp only [hdst] at hd
    cases hn : natOf (ev σ (.t l)) with
    | none => simp [hn] at hd
    | some n =>
      simp only [hn] at hd
      split at hd
      · rename_i hroom
        injection hd with hd
        obtain ⟨k, hk⟩ := natOf_val (hs l) hn
        have hk' : a.eval (.tmp l) = .int k n := hk
        have hv : v = .ar d := by have := congrArg (·.1) hd; simpa [newA] using this.symm
        have h1 : σ' = (newA d (.arr i.size (List.replicate n z)) .un σ O).2.1 := by have := congrArg (·.2.1) hd; simpa [newA] using this.symm
        have h2 : O' = (newA d (.arr i.size (List.replicate n z)) .un σ O).2.2 := by have := congrArg (·.2.2) hd; simpa [newA] using this.symm
        subst hv; subst h1; subst h2
        have hzz := hz
        unfold tyZero at hzz
        simp only [hi] at hzz
        cases hiz : i.zero with
        | none => simp [hiz] at hzz
        | some zv =>
          simp only [hiz] at hzz
          have hroom' : n ≤ 4294967296 := hroom
          have hbn : i.bytes * n ≤ 65536 * 4294967296 := Nat.mul_le_mul hb hroom'
          have hrun := run_make (P := P) w t e i zv ht hi hiz k k (n : Int) (n : Int) (by omega) (by omega) (by rw [← Int.natCast_mul]; omega) (by omega)
          simp only [Int.toNat_natCast] at hrun
          refine made_wp (ob := .arr i.size (List.replicate n z)) hr hs (hdb d hdst) (Fr.alloc w _) (Nat.le_refl _) (by simp) (made_zero (ofVal_rel hzz) hsz e _ _ (heap_alloc_new w _)) (x := .slice (some ⟨w.heap.size, 0, none⟩) n n) ?_ (fun S' β' hb => ?_) hK
          · simp only [execOp, ho, hk', Sem.run_bind, hrun, Result.andThen_ok, Sem.run_pure]
          · have hsr := SR.ar (w := w.alloc (.cells (madeCells zv.cells (n * i.size)) e)) (S := S') (β := β') (O := (newA d (.arr i.size (List.replicate n z)) .un σ O).2.2) d i.size n (List.replicate n z) (by simp [newA, setO, Ob.tr]) (by simp) (by rw [hb, bsz_cells (heap_alloc_new w _)]; simp [madeCells])
            rw [hb] at hsr
            simpa using hsr
      · cases hd
end
end Go.Proofs.YtpobnchalcokoaaDoor.Pam
