/- A part of the proof that stands in this folder: a small machine whose steps are shown to be the steps of the model, or walks of functions by it. No condition of its own. -/
import Derived.Test.YtpobnchalcokoaaDoorPamN1
import Derived.MapKept
import Derived.Laws.CopyRow
set_option linter.unusedVariables false
set_option linter.unusedSimpArgs false
namespace Go.Proofs.YtpobnchalcokoaaDoor.Pam
open Go

section
variable {P : Program} {w w' w1 : World} {S S' S2 : Nat → Prop} {β β' : Nat → Nat} {O O' : Objs} {σ σ' : Env} {a : Act} {o : Oper} {v : SV} {ann : Nat → Option Ann} {Γ : Gam} {tmps : Array Value} {K : Act → World → Prop} {Q : Exit → Act → World → Prop}

/-- An array of cells, a pointer to it. -/
theorem sim_allocA {t : TypeId} {z : PV} (hr : Rel w S β O) (hs : Slots w S β O σ a.tmps) (ho : o.op = .alloc t) (hz : tyZero P t = some z) (hdb : ∀ d, o.dst = some d → d < 1000000) (hd : stepW Γ o.dst σ O (.allocA z.cells) = some (v, σ', O'))
    (hK : WK w S β O O' σ' a o v K) : o.wp P a w K Q := by
  simp only [stepW] at hd
  split at hd
  · rename_i hcl
    cases hdst : o.dst with
    | none => simp [hdst] at hd
    | some d =>
      simp [hdst] at hd
      obtain ⟨zv, hzr, hzp⟩ := run_zero (w := w) hz
      have hv : v = .el d 0 0 := by have := congrArg (·.1) hd; simpa [newA] using this.symm
      have h1 : σ' = (newA d (.arr 1 z.cells) .un σ O).2.1 := by have := congrArg (·.2.1) hd; simpa [newA] using this.symm
      have h2 : O' = (newA d (.arr 1 z.cells) .un σ O).2.2 := by have := congrArg (·.2.2) hd; simpa [newA] using this.symm
      subst hv; subst h1; subst h2
      obtain ⟨f1, f2⟩ := flat_cells hcl.1
      have hp : PR w S z zv := ofVal_rel hzp
      obtain ⟨hc1, hc2⟩ := hp.cells
      refine made_wp (ob := .arr 1 z.cells) hr hs (hdb d hdst) (Fr.alloc w (.cells zv.cells t)) (Nat.le_refl _) (by simp) ⟨zv.cells, t, heap_alloc_new w _, f2, by rw [f1]; omega, fun i hi => ?_⟩ (x := .pointer (some ⟨w.heap.size, 0, none⟩)) ?_ (fun S' β' hb => ?_) hK
      · have hi' : i < z.cells.length := by rw [← f1]; exact hi
        have e4 : (flat z.cells)[i] = z.cells[i] := by congr 1
        rw [e4]; exact hc2 i hi'
      · simp [execOp, ho, Instr.alloc, hzr, newVar, newRow]
      · rw [← hb]; exact .el d 1 0 0 z.cells (by simp [newA, setO, Ob.tr]) hcl.2
  · cases hd

/-- A map that is given up at once. -/
theorem sim_mkmapF {t : TypeId} (hr : Rel w S β O) (hs : Slots w S β O σ a.tmps) (ho : o.op = .makeMap t none) (hd : stepW Γ o.dst σ O .mkmapF = some (v, σ', O')) (hK : WK w S β O O' σ' a o v K) : o.wp P a w K Q := by
  simp only [stepW] at hd
  injection hd with hd; injection hd with e1 e2; injection e2 with e2 e3; subst e1; subst e2; subst e3
  have hg : Grow w (w.alloc (.map #[] 0)) S fun b => S b ∨ b = w.heap.size := ⟨Fr.alloc w _, fun _ h => .inl h, fun b hb => by
    rcases hb with h | h
    · exact .inl h
    · subst h; exact .inr ⟨Nat.le_refl _, by simp⟩⟩
  have hrun : (execOp a.eval o).run P w = .ok (.value (.map (some w.heap.size))) (w.alloc (.map #[] 0)) := by simp [execOp, ho, Instr.makeMap]
  unfold Oper.wp
  rw [hrun, Oper.upon_value]
  exact hK _ _ _ β hg.step (hr.grow hg) (fun i => (hs i).grow hr hg) (.p _ _ (.mapv [] w.heap.size 0 #[] (.inr rfl) (heap_alloc_new w _) rfl (fun i hi => by simp at hi) (fun i hi => by simp at hi)))

/-- A slice of a whole array: the array is given up. -/
theorem sim_slcF {t e : TypeId} {x : Operand} {y : Od} {n : Nat} (hr : Rel w S β O) (hs : Slots w S β O σ a.tmps) (ho : o.op = .slice t x none none none) (ht : P.underlying t = some (.array n e)) (hsz : tySz P e = some 1) (hy : odOf x = some y)
    (hd : stepW Γ o.dst σ O (.slcF n y) = some (v, σ', O')) (hK : WK w S β O O' σ' a o v K) : o.wp P a w K Q := by
  have hx := od_rel hs hy
  simp only [stepW] at hd
  split at hd
  · rename_i m hb
    rw [hb] at hx
    split at hd
    · rename_i cs hm
      split at hd
      · rename_i vs ha
        split at hd
        · rename_i hc
          obtain ⟨hn, h0, hcl⟩ := hc
          injection hd with hd; injection hd with e1 e2; injection e2 with e2 e3; subst e1; subst e2; subst e3
          obtain ⟨hax, _⟩ := hx.bx_inv (by rw [hm]; simp)
          have hml : O m ≠ none := by rw [hm]; simp
          have hS : ∀ b, S b → S b ∨ (O m ≠ none ∧ b = β m) := fun _ h => .inl h
          have hr1 := hr.freeze (S2 := fun b => S b ∨ (O m ≠ none ∧ b = β m)) (n := m) (q := O m) (.inr rfl) hS (fun h => .inr ⟨h, rfl⟩) (fun _ h => h)
          have hs1 : Slots w (fun b => S b ∨ (O m ≠ none ∧ b = β m)) β (freezeO m (O m) O) (freezeE m (O m) σ) a.tmps := fun i => (hs i).freeze hr (.inr rfl) hS (fun h => .inr ⟨h, rfl⟩)
          have hv := hx.freeze hr (S2 := fun b => S b ∨ (O m ≠ none ∧ b = β m)) (n := m) (q := O m) (.inr rfl) hS (fun h => .inr ⟨h, rfl⟩)
          simp only [SV.tr, fz, if_true, hm, ha, List.drop_zero] at hv
          have hp := hv.p_inv
          rw [hax] at hp
          cases hp with
          | cp _ b off vals hSb hcell hrel =>
            have hne : ∀ k, freezeO m (O m) O k ≠ none → O k ≠ none := fun k hk => by
              rcases freezeO_cases m (O m) O k with ⟨_, e⟩ | ⟨_, ⟨_, e⟩ | ⟨ob, h2, _⟩⟩
              · exact absurd e hk
              · exact absurd e hk
              · rw [h2]; simp
            have hstep : Step w w S (fun b => S b ∨ (O m ≠ none ∧ b = β m)) β β O (freezeO m (O m) O) := ⟨Fr.refl _ _, hS, fun b hb => by
              rcases hb with h | ⟨h1, h2⟩
              · exact .inl h
              · exact .inr (.inl ⟨m, h1, h2.symm⟩), fun _ => rfl, fun k hk _ => ⟨k, hne k hk, rfl⟩⟩
            obtain ⟨f1, f2⟩ := flat_cells hcl
            have hrun : (execOp a.eval o).run P w = .ok (.value (.slice (some ⟨β m, 0, none⟩) n n)) w := by
              have h00 : ¬ n = 0 := by omega
              simp [execOp, ho, Instr.sliceAt, run_underlying ht, Instr.sureAddr, hax, run_sz hsz, Instr.sliceBounds, h00, Addr.add_lit]
            unfold Oper.wp
            rw [hrun, Oper.upon_value]
            refine hK _ w _ β hstep hr1 hs1 (.p _ _ (.sl 1 vs (β m) 0 n n vals (by omega) (Nat.le_refl _) (by rw [hm]; exact hSb) f2 (fun i hi => ?_) (fun i hi => ?_)))
            · rw [f1] at hi; exact hcell i hi
            · have hi' : i < vs.length := by rw [← f1]; exact hi
              have e4 : (flat vs)[i] = vs[i] := by congr 1
              rw [e4]
              have := hrel i hi'
              rw [hm]
              exact this
        · cases hd
      · cases hd
    · cases hd
  · cases hd

theorem sim_copy {cl : Call} {X Y : Operand} {x' y' : Od} {t e : TypeId} (hr : Rel w S β O) (hs : Slots w S β O σ a.tmps) (ho : o.op = .call cl) (hc : cl.callee = .builtin .copy) (hargs : cl.args.toList = [X, Y]) (h0 : cl.argTypes[0]? = some t) (ht : P.underlying t = some (.slice e))
    (hsz : tySz P e = some 1) (hX : odOf X = some x') (hY : odOf Y = some y') (hd : stepW Γ o.dst σ O (.copy x' y') = some (v, σ', O')) (hK : WK w S β O O' σ' a o v K) : o.wp P a w K Q := by
  have rx := od_rel hs hX
  have ry := od_rel hs hY
  simp only [stepW] at hd
  split at hd
  · rename_i m lo hi ys hev hys
    rw [hev] at rx
    split at hd
    · rename_i sz xs hm
      split at hd
      · rename_i hcond
        obtain ⟨rfl, hlt, hle, hlen, hcl⟩ := hcond
        injection hd with hd; injection hd with e1 e2; injection e2 with e2 e3; subst e1; subst e2; subst e3
        obtain ⟨sz', xs', o', cap, hm', hax, _, _, h3, h4⟩ := rx.sub_inv (by rw [hm]; simp)
        rw [hm] at hm'; cases hm'
        have ho' := h4 hlt; subst ho'
        obtain ⟨b, c, news, hay, hnl, hysz, hfn, hnp⟩ := elems_rel (P := P) hr ry hys
        obtain ⟨cc, ty, hh, hszs, hlen2, hcell⟩ := hr.obj m _ hm
        have hfx := flat_length hszs
        have hfy := flat_length hysz
        obtain ⟨f1, f2⟩ := flat_cells hcl
        have hone : ∀ q ∈ news, q.oneCell' = true := fun q hq => by
          obtain ⟨k, hk, hkq⟩ := List.getElem_of_mem hq
          have hk' : k < (flat ys).length := by omega
          have := hnp k hk'
          have e : news.getD k undef = q := by rw [← hkq]; simp [List.getElem?_eq_getElem hk]
          rw [e] at this
          have hk2 : k < ys.length := by rw [← f1]; exact hk'
          have e4 : (flat ys)[k] = ys[k] := by congr 1
          rw [e4] at this
          exact isCell_one this (List.all_eq_true.1 hcl _ (List.getElem_mem hk2))
        have hst := run_storeCells_at P (β m) lo ty news 0 cc w hh (by omega) hone
        have hrun : (execOp a.eval o).run P w = .ok (.value (.int .i64 (hi - lo : Nat))) (w.setRow (β m) (cc.toList.take (lo * 1) ++ news ++ cc.toList.drop (lo * 1 + news.length)).toArray) := by
          have hmin : Nat.min (hi - lo) (hi - lo) = hi - lo := Nat.min_self _
          have hf0 := hfn w fun _ => rfl
          rw [hay, hlen] at hf0
          rw [hlen] at hay
          simp only [Nat.add_zero] at hst
          simp [execOp, ho, resolve, hc, call_args2 hargs, invoke, builtin, Builtin.copy_, h0, run_underlying ht, hax, hay, Builtin.lenOf, run_sz hsz, hmin, hf0, hst, goInt]
        refine write_elems (vs := ys) (off := lo) (l := news) hr hs hm hh (by omega) f2 (by omega) hnp hrun (.inr ⟨rfl, fun _ => .p _ _ (.int _ _)⟩) hK
      · cases hd
    · cases hd
  · cases hd

theorem sim_clear {cl : Call} {X : Operand} {x' : Od} {t e : TypeId} {z : PV} {sz : Nat} (hr : Rel w S β O) (hs : Slots w S β O σ a.tmps) (ho : o.op = .call cl) (hc : cl.callee = .builtin .clear) (hargs : cl.args.toList = [X]) (h0 : cl.argTypes[0]? = some t) (ht : P.underlying t = some (.slice e))
    (hz : tyZero P e = some z) (hpos : 0 < sz) (hzl : z.cells.length = sz) (hzc : z.cells.all PV.isCell = true) (hX : odOf X = some x') (hd : stepW Γ o.dst σ O (.clear sz z x') = some (v, σ', O')) (hK : WK w S β O O' σ' a o v K) : o.wp P a w K Q := by
  have rx := od_rel hs hX
  simp only [stepW] at hd
  split at hd
  · rename_i m lo hi hev
    rw [hev] at rx
    split at hd
    · rename_i s xs hm
      split at hd
      · rename_i hcond
        obtain ⟨rfl, hlh, hle⟩ := hcond
        injection hd with hd; injection hd with e1 e2; injection e2 with e2 e3; subst e1; subst e2; subst e3
        obtain ⟨sz', xs', o', cap, hm', hax, _, _, h3, h4⟩ := rx.sub_inv (by rw [hm]; simp)
        rw [hm] at hm'; cases hm'
        have htp : ∀ w' S' β' O', SR w' S' β' O' (.tp []) (.tuple #[]) := fun _ _ _ _ => .tp [] #[] rfl fun i hi => by simp at hi
        rcases Nat.eq_or_lt_of_le hlh with heq | hlt
        · subst heq
          have hO : setO m (some (.arr s (putPV xs lo (List.replicate (lo - lo) z)))) O = O := by
            funext k
            simp only [Nat.sub_self, List.replicate_zero, putPV, setO]
            split
            · rename_i hk; rw [hk, hm]
            · rfl
          rw [hO] at hK
          have hrun : (execOp a.eval o).run P w = .ok (.value (.tuple #[])) w := by
            simp [execOp, ho, resolve, hc, call_args hargs, invoke, builtin, Builtin.clear_, h0, run_underlying ht, hax]
          unfold Oper.wp
          rw [hrun, Oper.upon_value]
          exact hK _ w S β (Step.refl _ _ _ _) hr hs (htp _ _ _ _)
        · have ho' := h4 hlt; subst ho'
          obtain ⟨cc, ty, hh, hszs, hlen2, hcell⟩ := hr.obj m _ hm
          obtain ⟨zv, hzr, hzp⟩ := run_zero (w := w) hz
          have hzR : PR w S z zv := ofVal_rel hzp
          obtain ⟨hc1, hc2⟩ := hzR.cells
          have hvs : ∀ x ∈ List.replicate (hi - lo) z, x.cells.length = s := fun x hx => by rw [(List.mem_replicate.1 hx).2]; exact hzl
          have hfv := flat_length hvs
          rw [List.length_replicate] at hfv
          have hfx := flat_length hszs
          have hzl2 : (Builtin.zeroCells zv.cells (hi - lo)).toList.length = (hi - lo) * s := by simp [Builtin.zeroCells, hc1, hzl]
          have hget : ∀ i, i < (hi - lo) * s → (Builtin.zeroCells zv.cells (hi - lo)).toList.getD i undef = zv.cells.getD (i % s) undef := fun i hi' => by
            have hm' : i % s < zv.cells.size := by rw [hc1, hzl]; exact Nat.mod_lt _ hpos
            simp [Builtin.zeroCells, hc1, hzl, hi', getElem!_pos zv.cells (i % s) hm', Array.getElem?_eq_getElem hm']
          have hfit : lo * s + (hi - lo) * s ≤ xs.length * s := by
            rw [← Nat.add_mul]; exact Nat.mul_le_mul_right _ (by omega)
          have hone : ∀ q ∈ (Builtin.zeroCells zv.cells (hi - lo)).toList, q.oneCell' = true := fun q hq => by
            obtain ⟨k, hk, hkq⟩ := List.getElem_of_mem hq
            have hk' : k < (hi - lo) * s := by omega
            have hms : k % s < z.cells.length := by rw [hzl]; exact Nat.mod_lt _ hpos
            have := hc2 (k % s) hms
            rw [← hget k hk'] at this
            have e : (Builtin.zeroCells zv.cells (hi - lo)).toList.getD k undef = q := by rw [← hkq]; simp only [List.getD, List.getElem?_eq_getElem hk, Option.getD_some]
            rw [e] at this
            exact isCell_one this (List.all_eq_true.1 hzc _ (List.getElem_mem hms))
          have hst := run_storeCells_at P (β m) (lo * s) ty (Builtin.zeroCells zv.cells (hi - lo)).toList 0 cc w hh (by omega) hone
          have hrun : (execOp a.eval o).run P w = .ok (.value (.tuple #[])) (w.setRow (β m) (cc.toList.take (lo * s) ++ (Builtin.zeroCells zv.cells (hi - lo)).toList ++ cc.toList.drop (lo * s + (Builtin.zeroCells zv.cells (hi - lo)).toList.length)).toArray) := by
            simp only [Nat.add_zero] at hst
            obtain ⟨q, hq⟩ : ∃ q, hi - lo = q + 1 := ⟨hi - lo - 1, by omega⟩
            rw [hq] at hax hst ⊢
            simp [execOp, ho, resolve, hc, call_args hargs, invoke, builtin, Builtin.clear_, h0, run_underlying ht, hax, hzr, hst]
          refine write_elems (vs := List.replicate (hi - lo) z) (off := lo) (l := (Builtin.zeroCells zv.cells (hi - lo)).toList) hr hs hm hh (by simp; omega) hvs (by omega) (fun i hi' => ?_) hrun (.inr ⟨rfl, fun _ => htp _ _ _ _⟩) hK
          rw [flat_rep z (hi - lo) hzl i hi', hget i (by omega)]
          exact hc2 _ _
      · cases hd
    · cases hd
  · cases hd

/-! maps -/
theorem mset_at {k v : PV} : ∀ {es es' : List (PV × PV)} {i : Nat}, mset k v es = some es' →
    (lookAt k es i = some none ∧ es' = es ++ [(k, v)]) ∨ ∃ j u, lookAt k es i = some (some (i + j, u)) ∧ j < es.length ∧ es' = es.set j (k, v) ∧ ∃ k', (es[j]?).map (·.1) = some k' ∧ keyEq k k' = some true
  | [], es', i, h => by
    simp only [mset, Option.some.injEq] at h
    exact .inl ⟨rfl, h.symm⟩
  | (k', v') :: r, es', i, h => by
    simp only [mset] at h
    split at h
    · rename_i he
      injection h with h; subst h
      exact .inr ⟨0, v', by simp [lookAt, he], by simp, rfl, k', rfl, he⟩
    · rename_i he
      cases hr : mset k v r with
      | none => simp [hr] at h
      | some r' =>
        simp [hr] at h; subst h
        rcases mset_at (i := i + 1) hr with ⟨h1, h2⟩ | ⟨j, u, h1, h2, h3, h4⟩
        · exact .inl ⟨by simp [lookAt, he, h1], by simp [h2]⟩
        · refine .inr ⟨j + 1, u, by simp only [lookAt, he, h1]; rw [show i + 1 + j = i + (j + 1) by omega], by simp; omega, by simp [h3], by simpa using h4⟩
    · cases h

theorem sameBits_ints (n : Nat) {cs cs' : List PV} {xs ys : Array Value} (hx : IntsV cs xs) (hy : IntsV cs' ys) (h : scalEqL cs cs' = some true) : Instr.sameBits (n + 2) (.agg ys) (.agg xs) = true := by
  have key : ∀ (cs cs' : List PV), scalEqL cs cs' = some true → cs.length = cs'.length ∧ ∀ i (hi : i < cs.length) (hi' : i < cs'.length), scalEq cs[i] cs'[i] = some true := by
    intro cs
    induction cs with
    | nil => intro cs' h; cases cs' <;> simp [scalEqL] at h; exact ⟨rfl, fun i hi => by simp at hi⟩
    | cons c cs ih =>
      intro cs' h
      cases cs' with
      | nil => simp [scalEqL] at h
      | cons c' cs' =>
        simp only [scalEqL] at h
        split at h
        · rename_i he
          obtain ⟨h1, h2⟩ := ih cs' h
          refine ⟨by simp [h1], fun i hi hi' => ?_⟩
          cases i with
          | zero => exact he
          | succ i => exact h2 i (by simpa using hi) (by simpa using hi')
        · cases h
        · cases h
  obtain ⟨h1, h2⟩ := key cs cs' h
  have hsz : ys.size = xs.size := by rw [hx.1, hy.1, h1]
  simp only [Instr.sameBits, hsz, beq_self_eq_true, Bool.true_and, List.all_eq_true]
  intro p hp
  obtain ⟨i, hi, hpi⟩ := List.getElem_of_mem hp
  have hlz : i < ys.toList.length ∧ i < xs.toList.length := by simp at hi; simp; omega
  have hi1 : i < cs.length := by have := hlz.2; simp at this; have := hx.1; omega
  have hi2 : i < cs'.length := by omega
  obtain ⟨k, n1, e1, e2⟩ := hx.2 i hi1
  obtain ⟨k', n2, e3, e4⟩ := hy.2 i hi2
  have h3 := h2 i hi1 hi2
  rw [e1, e3] at h3
  simp only [scalEq] at h3
  have hp2 : p = (Value.int k' n2, Value.int k n1) := by
    rw [← hpi]
    have hA : ys.toList[i]'hlz.1 = .int k' n2 := by
      have := e4; rw [← Array.getElem?_toList, List.getElem?_eq_getElem hlz.1] at this; injection this
    have hB : xs.toList[i]'hlz.2 = .int k n1 := by
      have := e2; rw [← Array.getElem?_toList, List.getElem?_eq_getElem hlz.2] at this; injection this
    rw [List.getElem_zip, hA, hB]
  subst hp2
  by_cases hk : k = k'
  · subst hk
    simp only [if_true, Option.some.injEq] at h3
    have := eq_of_beq h3
    subst this
    simp [Instr.sameBits]
  · simp [hk] at h3

theorem sameBits_int (n : Nat) (k : IntKind) (z : Int) : Instr.sameBits (n + 1) (.int k z) (.int k z) = true := by simp [Instr.sameBits]

theorem sim_mapup {t kt e : TypeId} {m k x : Operand} {m' k' x' : Od} {kn : Option Nat} (hr : Rel w S β O) (hs : Slots w S β O σ a.tmps) (ho : o.op = .mapUpdate t m k x) (ht : P.underlying t = some (.map kt e)) (hm : odOf m = some m') (hk : odOf k = some k') (hx : odOf x = some x')
    (hkt : keyTy P kt = some kn) (hd : stepW Γ o.dst σ O (.mapup kn m' k' x') = some (v, σ', O')) (hK : WK w S β O O' σ' a o v K) : o.wp P a w K Q := by
  have rm := od_rel hs hm
  have rk := od_rel hs hk
  have rx := od_rel hs hx
  simp only [stepW] at hd
  split at hd
  · rename_i n key pv hev hkey hevx
    rw [hev] at rm
    rw [hevx] at rx
    split at hd
    · rename_i es hn
      split at hd
      · rename_i hok
        split at hd
        · rename_i es' hes
          injection hd with hd; injection hd with e1 e2; injection e2 with e2 e3; subst e1; subst e2; subst e3
          obtain ⟨hax, _⟩ := rm.mp_inv (by rw [hn]; simp)
          have hnl : O n ≠ none := by rw [hn]; simp
          obtain ⟨en, ck, hh, hlen, hks, hvs⟩ := hr.obj n _ hn
          have conv : ∀ j, en.toList[j]?.getD default = en.getD j default := fun j => by
            rw [Array.getElem?_toList]
            by_cases hj : j < en.size
            · simp [hj]
            · simp [hj]
          obtain ⟨hpk, hkI, hkA⟩ := keyA_val rk hkey
          have hpx := rx.p_inv
          have hw : ∀ (en' : Array MapEntry) (ck' : Nat), ∀ b, b ≠ β n → ({ w with heap := w.heap.setIfInBounds (β n) (.map en' ck') } : World).heap[b]? = w.heap[b]? := fun en' ck' b hb => (MapKept.heap_set hh).2 b hb
          have hnew : ∀ (en' : Array MapEntry) (ck' : Nat), ({ w with heap := w.heap.setIfInBounds (β n) (.map en' ck') } : World).heap[β n]? = some (.map en' ck') := fun en' ck' => (MapKept.heap_set hh).1
          have hbs : ∀ (en' : Array MapEntry) (ck' : Nat), bsz ({ w with heap := w.heap.setIfInBounds (β n) (.map en' ck') } : World) (β n) = bsz w (β n) := fun en' ck' => by simp only [bsz]; rw [hnew, hh]
          have hpm : ∀ (en' : Array MapEntry) (ck' : Nat) (u : PV) y, PR w S u y → PR ({ w with heap := w.heap.setIfInBounds (β n) (.map en' ck') } : World) S u y := fun en' ck' u y h => h.mono fun b hb => ⟨hb, hw _ _ b fun e => (hr.sep b hb).2 n hnl e.symm⟩
          have fin : ∀ (en' : Array MapEntry) (ck' : Nat), (execOp a.eval o).run P w = .ok .skip { w with heap := w.heap.setIfInBounds (β n) (.map en' ck') } → en'.size = es'.length →
              (∀ j (hj : j < es'.length), PR w S es'[j].1 (en'.getD j default).key) → (∀ j (hj : j < es'.length), PR w S es'[j].2 (en'.getD j default).val) → o.wp P a w K Q := by
            intro en' ck' hrun hsz g1 g2
            have hlike : likeO (.map es) (.map es') := by simp [likeO]
            have hsr : ∀ {u : SV} {y : Value}, SR w S β O u y → SR ({ w with heap := w.heap.setIfInBounds (β n) (.map en' ck') } : World) S β (setO n (some (.map es')) O) u y := fun h => h.write hn hlike (hw _ _) (hbs _ _) hr
            unfold Oper.wp
            rw [hrun, Oper.upon_skip]
            have hfr : Fr w ({ w with heap := w.heap.setIfInBounds (β n) (.map en' ck') } : World) fun b => ∃ k, O k ≠ none ∧ β k = b := ⟨rfl, rfl, rfl, by simp, fun b _ hb => hw _ _ b fun e => hb ⟨n, hnl, e.symm⟩, fun b _ => by
              by_cases hb : b = β n
              · rw [hb]; exact hbs _ _
              · simp only [bsz]; rw [hw _ _ b hb]⟩
            refine hK undef _ S β ⟨hfr, fun _ h => h, fun _ h => .inl h, fun _ => rfl, fun k hk _ => ⟨k, ?_, rfl⟩⟩ (hr.write hn hlike (hw _ _) (by simp) (hbs _ _) ⟨en', ck', hnew _ _, hsz, fun j hj => hpm _ _ _ _ (g1 j hj), fun j hj => hpm _ _ _ _ (g2 j hj)⟩) (fun i => hsr (hs i)) .un
            by_cases h : k = n
            · rw [h]; exact hnl
            · simpa [setO, h] using hk
          rcases mset_at (i := 0) hes with ⟨h1, h2⟩ | ⟨j, u, h1, h2, h3, k2, h4, h5⟩
          · obtain ⟨hck, zz, hf, hf1, _⟩ := find_key hkt rk hkey (l := en.toList) (by simpa using hlen) (fun j hj => by rw [conv]; exact hks j hj) hok h1
            have := hf1 rfl; subst this
            subst h2
            refine fin (en.push ⟨a.eval k, a.eval x, ck⟩) (ck + 1) ?_ (by simp [hlen]) (fun j hj => ?_) (fun j hj => ?_)
            · simp only [execOp, ho, Instr.mapUpdate, hax, Sem.run_bind, run_underlying ht, Result.andThen_ok, MapKept.run_getObj_map hh, hck, hf]
              rw [MapKept.run_setObj_map _ hh]
              rfl
            · rcases Nat.lt_or_ge j es.length with g | g
              · rw [List.getElem_append_left g]
                have : (en.push ⟨a.eval k, a.eval x, ck⟩).getD j default = en.getD j default := by
                  have hj1 : j < en.size := by omega
                  simp [Array.getElem?_push, Nat.ne_of_lt hj1]
                rw [this]; exact hks j g
              · have hj' : j = es.length := by simp at hj; omega
                subst hj'
                have : (en.push ⟨a.eval k, a.eval x, ck⟩).getD es.length default = ⟨a.eval k, a.eval x, ck⟩ := by rw [← hlen]; simp
                rw [this]
                simpa using hpk
            · rcases Nat.lt_or_ge j es.length with g | g
              · rw [List.getElem_append_left g]
                have : (en.push ⟨a.eval k, a.eval x, ck⟩).getD j default = en.getD j default := by
                  have hj1 : j < en.size := by omega
                  simp [Array.getElem?_push, Nat.ne_of_lt hj1]
                rw [this]; exact hvs j g
              · have hj' : j = es.length := by simp at hj; omega
                subst hj'
                have : (en.push ⟨a.eval k, a.eval x, ck⟩).getD es.length default = ⟨a.eval k, a.eval x, ck⟩ := by rw [← hlen]; simp
                rw [this]
                simpa using hpx
          · obtain ⟨hck, zz, hf, _, hf2⟩ := find_key hkt rk hkey (l := en.toList) (by simpa using hlen) (fun j hj => by rw [conv]; exact hks j hj) hok h1
            have := hf2 _ _ rfl; subst this
            simp only [Nat.zero_add] at hf
            subst h3
            have hjn : j < en.size := by omega
            have hold := hks j h2
            have hek : es[j].1 = k2 := by simpa [List.getElem?_eq_getElem h2] using h4
            rw [hek] at hold
            have hsame : Instr.sameBits 10000 (en.getD j default).key (a.eval k) = true := by
              rcases keyTy_inv hkt with ⟨rfl, q, hu⟩ | ⟨n', e', q, rfl, hu, he, h1'⟩
              · obtain ⟨kd, z, rfl, hak⟩ := hkI rfl
                rw [hak]
                cases k2 <;> simp [keyEq, scalEq] at h5
                rename_i kd' z'
                obtain ⟨rfl, h6⟩ := h5
                subst h6
                generalize (en.getD j default).key = q' at hold
                cases hold
                exact sameBits_int 9999 _ _
              · obtain ⟨cs, vs, rfl, hak, hv, hn', hci⟩ := hkA n' rfl
                rw [hak]
                have hag : aggN n' k2 = true := by rw [← hek]; exact List.all_eq_true.1 hok _ (List.getElem_mem h2)
                obtain ⟨cs', rfl⟩ : ∃ cs', k2 = .agg cs' := by cases k2 <;> simp [aggN] at hag; exact ⟨_, rfl⟩
                simp only [aggN, Bool.and_eq_true, beq_iff_eq] at hag
                obtain ⟨ys, hy, hyi⟩ := intsV_of hold hag.2
                rw [hy]
                exact sameBits_ints 9998 hv hyi h5
            refine fin (en.modify j fun e => { e with key := a.eval k, val := a.eval x }) ck ?_ (by simp [hlen]) (fun i hi => ?_) (fun i hi => ?_)
            · have hgk : ((en[j]?).map (·.key)).getD (a.eval k) = (en.getD j default).key := by simp [hjn]
              have hkts : (Instr.keyThatStays (en.getD j default).key (a.eval k)).run P w = .ok (a.eval k) w := by simp only [Instr.keyThatStays, hsame, if_true, Sem.run_pure]
              simp only [execOp, ho, Instr.mapUpdate, hax, Sem.run_bind, run_underlying ht, Result.andThen_ok, MapKept.run_getObj_map hh, hck, hf, hgk, hkts]
              rw [MapKept.run_setObj_map _ hh]
              rfl
            · by_cases hij : i = j
              · subst hij
                have : ((en.modify i fun e => { e with key := a.eval k, val := a.eval x }).getD i default).key = a.eval k := by simp [Array.getElem_modify, hjn]
                rw [this]; simpa using hpk
              · have hi2 : i < es.length := by simpa using hi
                have : ((en.modify j fun e => { e with key := a.eval k, val := a.eval x }).getD i default) = en.getD i default := by simp [Array.getElem?_modify, Ne.symm hij]
                rw [this, List.getElem_set_ne (Ne.symm hij)]
                exact hks i hi2
            · by_cases hij : i = j
              · subst hij
                have : ((en.modify i fun e => { e with key := a.eval k, val := a.eval x }).getD i default).val = a.eval x := by simp [Array.getElem_modify, hjn]
                rw [this]; simpa using hpx
              · have hi2 : i < es.length := by simpa using hi
                have : ((en.modify j fun e => { e with key := a.eval k, val := a.eval x }).getD i default) = en.getD i default := by simp [Array.getElem?_modify, Ne.symm hij]
                rw [this, List.getElem_set_ne (Ne.symm hij)]
                exact hvs i hi2
        · cases hd
      · cases hd
    · cases hd
  · cases hd

end
end Go.Proofs.YtpobnchalcokoaaDoor.Pam
