/- A part of the proof that stands in this folder: a small machine whose steps are shown to be the steps of the model, or walks of functions by it. No condition of its own. -/
import Derived.Test.YtpobnchalcokoaaDoorPamI
set_option linter.unusedVariables false
set_option linter.unusedSimpArgs false
namespace Go.Proofs.YtpobnchalcokoaaDoor.Pam
open Go
section
variable {P : Program} {w w' : World} {S S' : Nat → Prop} {β : Nat → Nat} {O : Objs} {σ : Env} {a : Act} {o : Oper} {v : SV} {ann : Nat → Option Ann} {Γ : Gam}

theorem scalL_get {cs : List SV} (h : SV.scalL cs = true) {i : Nat} (hi : i < cs.length) : (cs[i]).scal = true := by
  induction cs generalizing i with
  | nil => simp at hi
  | cons c cs ih =>
    simp only [SV.scalL, Bool.and_eq_true] at h
    cases i with
    | zero => exact h.1
    | succ i => exact ih h.2 (by simpa using hi)

theorem SR.tr_scal {β' : Nat → Nat} {O' : Objs} {f : SV → SV} (hp : ∀ (v : PV) x, v.scal = true → PR w S v x → PR w' S' v x)
    (hf : ∀ v x, isRef v = true → v.scal = true → SR w S β O v x → SR w' S' β' O' (f v) x) {v : SV} {x : Value} (h : SR w S β O v x) (hv : v.scal = true) : SR w' S' β' O' (v.tr f) x := by
  induction h with
  | p v x h => exact .p v x (hp v x (by simpa [SV.scal] using hv) h)
  | ag cs vs hn _ ih =>
    simp only [SV.tr]
    exact .ag _ vs (by rw [trL_length]; exact hn) fun i hi => by rw [trL_get]; exact ih i _ (scalL_get (by simpa [SV.scal] using hv) _)
  | tp cs vs hn _ ih =>
    simp only [SV.tr]
    exact .tp _ vs (by rw [trL_length]; exact hn) fun i hi => by rw [trL_get]; exact ih i _ (scalL_get (by simpa [SV.scal] using hv) _)
  | bx n off cs ho => rw [tr_ref rfl]; exact hf _ _ rfl hv (.bx n off cs ho)
  | ar n sz cap xs ho hl hc => rw [tr_ref rfl]; exact hf _ _ rfl hv (.ar n sz cap xs ho hl hc)
  | sub n sz lo hi o cap xs ho h1 h2 h3 h4 => rw [tr_ref rfl]; exact hf _ _ rfl hv (.sub n sz lo hi o cap xs ho h1 h2 h3 h4)
  | el n sz i j xs ho hi => rw [tr_ref rfl]; exact hf _ _ rfl hv (.el n sz i j xs ho hi)
  | mp n es ho => rw [tr_ref rfl]; exact hf _ _ rfl hv (.mp n es ho)
  | cl g a c va vc ha hc _ _ ih ih' =>
    simp only [SV.scal, Bool.and_eq_true] at hv
    simp only [SV.tr]
    exact .cl g _ _ va vc (by rw [trL_length]; exact ha) (by rw [trL_length]; exact hc) (fun i hi => by rw [trL_get]; exact ih i _ (scalL_get hv.1 _)) (fun i hi => by rw [trL_get]; exact ih' i _ (scalL_get hv.2 _))
  | un => exact .un
  | junk x => exact .junk x
  | dead v n x hr hv' ho =>
    rw [tr_ref hr]
    exact hf v x hr hv (.dead v n x hr hv' ho)

theorem cp_of_box {n : Nat} {cs : List SV} {vs : List PV} {S1 : Nat → Prop} (hr : Rel w S β O) (hm : O n = some (.box cs)) (ha : allP cs = some vs) (hb : S1 (β n)) (hp : ∀ u, SV.p u ∈ cs → ∀ x, PR w S u x → PR w S1 u x) (off : Nat) :
    PR w S1 (.cp (vs.drop off)) (.pointer (some ⟨β n, off, none⟩)) := by
  have e := allP_rel ha
  obtain ⟨c, ty, hh, hsz, hc⟩ := hr.obj n _ hm
  have hl : vs.length = cs.length := by rw [e]; simp
  refine .cp _ (β n) off (fun i => c.getD (off + i) undef) hb (fun i hi => cell_of hh _ (by simp at hi; omega)) fun i hi => ?_
  have hi' : off + i < vs.length := by simp at hi; omega
  have h1 := hc (off + i) (by omega)
  have e2 : cs[off + i]'(by omega) = .p (vs[off + i]) := by simp [e]
  rw [e2] at h1
  have := hp vs[off + i] (by rw [e]; exact List.mem_map_of_mem (List.getElem_mem _)) _ h1.p_inv
  simpa using this

/-- What a result stands for once its new objects are given up. -/
theorem thaw_leaf {β' : Nat → Nat} {O' : Objs} {S1 : Nat → Prop} (hr : Rel w S β O) (hp : ∀ n o, O n = some o → (∀ u ∈ (match o with | .arr _ xs => flat xs | _ => []), ∀ x, PR w S u x → PR w S1 u x) ∧ (∀ es, o = .map es → (∀ e ∈ es, ∀ x, PR w S e.1 x → PR w S1 e.1 x) ∧ (∀ e ∈ es, ∀ x, PR w S e.2 x → PR w S1 e.2 x)) ∧ (∀ cs, o = .box cs → ∀ u, SV.p u ∈ cs → ∀ x, PR w S u x → PR w S1 u x))
    (hb : ∀ n, O n ≠ none → S1 (β n)) {v : SV} {x : Value} (hv : isRef v = true) (h : SR w S β O v x) : SR w S1 β' O' (fzAll O v) x := by
  cases v <;> simp only [isRef] at hv <;> first | (cases hv; done) | skip
  case bx n off =>
    simp only [fzAll]
    split
    · rename_i cs hm
      split
      · rename_i vs ha
        obtain ⟨he, _⟩ := h.bx_inv (by rw [hm]; simp)
        subst he
        exact .p _ _ (cp_of_box hr hm ha (hb n (by rw [hm]; simp)) ((hp n _ hm).2.2 cs rfl) off)
      · exact .junk _
    · exact .junk _
  case el n i j => exact .junk _
  case ar n =>
    simp only [fzAll]
    split
    · rename_i sz xs hm
      obtain ⟨_, _, cap, hm', he, h1, h2⟩ := h.ar_inv (by rw [hm]; simp)
      rw [hm] at hm'; cases hm'
      subst he
      obtain ⟨c, ty, hb', hsz, hlen, hc⟩ := hr.obj n _ hm
      exact .p _ _ (.sl sz xs (β n) 0 _ cap (fun i => c.getD i undef) rfl h1 (hb n (by rw [hm]; simp)) hsz (fun i hi => by rw [Nat.zero_add]; exact cell_of hb' _ (by omega)) fun i hi => (hp n _ hm).1 _ (List.getElem_mem hi) _ (hc i hi))
    · exact .junk _
  case sub n lo hi0 =>
    simp only [fzAll]
    split
    · rename_i sz xs hm
      obtain ⟨_, _, off, cap, hm', he, h1, h2, h3, h4⟩ := h.sub_inv (by rw [hm]; simp)
      rw [hm] at hm'; cases hm'
      subst he
      obtain ⟨c, ty, hb', hsz, hlen, hc⟩ := hr.obj n _ hm
      exact .p _ _ (PR.cut (off := 0) (vals := fun i => c.getD i undef) (hb n (by rw [hm]; simp)) hsz (fun i hi => by rw [Nat.zero_add]; exact cell_of hb' _ (by omega)) (fun i hi => (hp n _ hm).1 _ (List.getElem_mem hi) _ (hc i hi)) h1 h2 (fun g => by rw [h4 g]; omega) h3)
    · exact .junk _
  case mp n =>
    simp only [fzAll]
    split
    · rename_i es hm
      obtain ⟨he, _⟩ := h.mp_inv (by rw [hm]; simp)
      subst he
      obtain ⟨en, ck, hb', hsz, hk, hv'⟩ := hr.obj n _ hm
      have := (hp n _ hm).2.1 es rfl
      exact .p _ _ (.mapv es (β n) ck en (hb n (by rw [hm]; simp)) hb' hsz (fun i hi => this.1 _ (List.getElem_mem hi) _ (hk i hi)) (fun i hi => this.2 _ (List.getElem_mem hi) _ (hv' i hi)))
    · exact .junk _

theorem thaw_rel {β' : Nat → Nat} {O' : Objs} {S1 : Nat → Prop} {fs : List Ob} {r : SV} {x : Value} (hr : Rel w S β (resO [] fs)) (h : SR w S β (resO [] fs) r x) (hb : ∀ n, resO [] fs n ≠ none → S1 (β n))
    (hc : (∀ b, S b → S1 b) ∨ (r.scal && fs.all Ob.scal) = true) : SR w S1 β' O' (thaw fs r) x := by
  unfold thaw
  rcases hc with hc | hc
  · have hm : ∀ (v : PV) x, PR w S v x → PR w S1 v x := fun v x h => h.mono fun b hb => ⟨hc b hb, rfl⟩
    exact h.tr hm fun v x hv hs => thaw_leaf hr (fun n o _ => ⟨fun u _ x hx => hm u x hx, fun es _ => ⟨fun e _ x hx => hm _ x hx, fun e _ x hx => hm _ x hx⟩, fun cs _ u _ x hx => hm u x hx⟩) hb hv hs
  · simp only [Bool.and_eq_true] at hc
    have hfs : ∀ n o, resO [] fs n = some o → o.scal = true := by
      intro n o hn
      simp only [resO] at hn
      split at hn
      · exact List.all_eq_true.1 hc.2 o (List.mem_of_getElem? hn)
      · split at hn <;> simp at hn
    refine h.tr_scal (fun v x hv hx => hx.scal_any v hv) (fun v x hv _ hs => thaw_leaf hr (fun n o hn => ?_) hb hv hs) hc.1
    have ho := hfs n o hn
    refine ⟨fun u hu x hx => ?_, fun es he => ?_, fun cs he u hu x hx => ?_⟩
    · cases o with
      | arr sz xs => exact hx.scal_any u (scal_flat (by simpa [Ob.scal] using ho) u hu)
      | _ => simp at hu
    · subst he
      simp only [Ob.scal, List.all_eq_true, Bool.and_eq_true] at ho
      exact ⟨fun e hm x hx => hx.scal_any _ (ho e hm).1, fun e hm x hx => hx.scal_any _ (ho e hm).2⟩
    · subst he
      simp only [Ob.scal] at ho
      obtain ⟨i, hi, e⟩ := List.getElem_of_mem hu
      have := scalL_get ho hi
      rw [e] at this
      exact hx.scal_any u (by simpa [SV.scal] using this)

theorem Rel.same {S' : Nat → Prop} (hr : Rel w S β O) (hf : ∀ n, O n ≠ none → w'.heap[β n]? = w.heap[β n]?) (hS : ∀ b, S b → S' b ∧ w'.heap[b]? = w.heap[b]?) (hsz : w.heap.size ≤ w'.heap.size)
    (hS' : ∀ b, S' b → b < w'.heap.size ∧ ∀ n, O n ≠ none → β n ≠ b) : Rel w' S' β O := by
  have hsr : ∀ {v : SV} {x : Value}, SR w S β O v x → SR w' S' β O v x := fun {v x} h => h.mono hS fun n hn => by
    cases ho : O n with
    | none => exact .inl rfl
    | some o => exact .inr ⟨o, o, rfl, rfl, by cases o <;> simp [likeO], rfl, by simp only [bsz]; rw [hf n (by rw [ho]; simp)]⟩
  refine ⟨fun n hn => Nat.lt_of_lt_of_le (hr.live n hn) hsz, hr.inj, hS', fun n o ho => ?_⟩
  have hb := hf n (by rw [ho]; simp)
  have h := hr.obj n o ho
  cases o with
  | box cs => obtain ⟨c, ty, h1, h2, h3⟩ := h; exact ⟨c, ty, by rw [hb]; exact h1, h2, fun i hi => hsr (h3 i hi)⟩
  | arr sz xs => obtain ⟨c, ty, h1, h2, h3, h4⟩ := h; exact ⟨c, ty, by rw [hb]; exact h1, h2, h3, fun i hi => (h4 i hi).mono hS⟩
  | map es => obtain ⟨en, ck, h1, h2, h3, h4⟩ := h; exact ⟨en, ck, by rw [hb]; exact h1, h2, fun i hi => (h3 i hi).mono hS, fun i hi => (h4 i hi).mono hS⟩

theorem SR.same {S' : Nat → Prop} {x : Value} (h : SR w S β O v x) (hf : ∀ n, O n ≠ none → w'.heap[β n]? = w.heap[β n]?) (hS : ∀ b, S b → S' b ∧ w'.heap[b]? = w.heap[b]?) : SR w' S' β O v x :=
  h.mono hS fun n hn => by
    cases ho : O n with
    | none => exact .inl rfl
    | some o => exact .inr ⟨o, o, rfl, rfl, by cases o <;> simp [likeO], rfl, by simp only [bsz]; rw [hf n (by rw [ho]; simp)]⟩

/-- Nothing that was there has changed, and what is stable has grown by new blocks alone. -/
structure Grow (w w' : World) (S S' : Nat → Prop) : Prop where
  fr : Fr w w' fun _ => False
  up : ∀ b, S b → S' b
  new : ∀ b, S' b → S b ∨ (w.heap.size ≤ b ∧ b < w'.heap.size)

theorem Grow.refl (w : World) (S : Nat → Prop) : Grow w w S S := ⟨Fr.refl w _, fun _ h => h, fun _ h => .inl h⟩
theorem Grow.blk (h : Grow w w' S S') {b : Nat} (hb : b < w.heap.size) : w'.heap[b]? = w.heap[b]? := h.fr.block b hb id
theorem Grow.trans {w'' : World} {S'' : Nat → Prop} (h : Grow w w' S S') (h' : Grow w' w'' S' S'') : Grow w w'' S S'' :=
  ⟨h.fr.trans h'.fr fun _ _ h => h, fun b hb => h'.up b (h.up b hb), fun b hb => by
    rcases h'.new b hb with h1 | ⟨h1, h2⟩
    · rcases h.new b h1 with h3 | ⟨h3, h4⟩
      · exact .inl h3
      · exact .inr ⟨h3, Nat.lt_of_lt_of_le h4 h'.fr.size⟩
    · exact .inr ⟨Nat.le_trans h.fr.size h1, h2⟩⟩

theorem Rel.grow (hr : Rel w S β O) (h : Grow w w' S S') : Rel w' S' β O :=
  hr.same (fun n hn => h.blk (hr.live n hn)) (fun b hb => ⟨h.up b hb, h.blk (hr.sep b hb).1⟩) h.fr.size fun b hb => by
    rcases h.new b hb with h1 | ⟨h1, h2⟩
    · exact ⟨Nat.lt_of_lt_of_le (hr.sep b h1).1 h.fr.size, (hr.sep b h1).2⟩
    · exact ⟨h2, fun n hn e => by have := hr.live n hn; omega⟩
theorem SR.grow {x : Value} (hv : SR w S β O v x) (hr : Rel w S β O) (h : Grow w w' S S') : SR w' S' β O v x :=
  hv.same (fun n hn => h.blk (hr.live n hn)) fun b hb => ⟨h.up b hb, h.blk (hr.sep b hb).1⟩

theorem callee_rel {sv : SV} {x : Value} {g : FuncId} {p q : List SV} (h : SR w S β O sv x) (hc : callee sv = some (g, p, q)) :
    ∃ va vc, x = .func (.func g) va vc ∧ va.size = p.length ∧ vc.size = q.length ∧ (∀ i (_ : i < p.length), SR w S β O p[i] (va.getD i undef)) ∧ (∀ i (_ : i < q.length), SR w S β O q[i] (vc.getD i undef)) := by
  cases sv <;> simp only [callee] at hc <;> first | (cases hc; done) | skip
  · rename_i v
    cases v <;> simp only at hc <;> first | (cases hc; done) | skip
    injection hc with hc; injection hc with h1 h2; injection h2 with h2 h3; subst h1; subst h2; subst h3
    have hp := h.p_inv
    cases hp with
    | fn _ _ _ va vc h1 h2 h3 h4 => exact ⟨va, vc, rfl, by simpa using h1, by simpa using h2, fun i hi => by simpa using SR.p _ _ (h3 i (by simpa using hi)), fun i hi => by simpa using SR.p _ _ (h4 i (by simpa using hi))⟩
  · injection hc with hc; injection hc with h1 h2; injection h2 with h2 h3; subst h1; subst h2; subst h3
    exact h.cl_inv

theorem append_rel {p q : List SV} {va vc : Array Value} (h1 : va.size = p.length) (h2 : vc.size = q.length) (h3 : ∀ i (_ : i < p.length), SR w S β O p[i] (va.getD i undef)) (h4 : ∀ i (_ : i < q.length), SR w S β O q[i] (vc.getD i undef)) :
    (va ++ vc).size = (p ++ q).length ∧ ∀ i (_ : i < (p ++ q).length), SR w S β O (p ++ q)[i] ((va ++ vc).getD i undef) := by
  refine ⟨by simp; omega, fun i hi => ?_⟩
  by_cases hlt : i < p.length
  · rw [List.getElem_append_left hlt]
    have e : (va ++ vc).getD i undef = va.getD i undef := by simp [Array.getElem?_append_left (show i < va.size by omega)]
    rw [e]; exact h3 i hlt
  · rw [List.getElem_append_right (by omega)]
    have e : (va ++ vc).getD i undef = vc.getD (i - p.length) undef := by simp [Array.getElem?_append_right (show va.size ≤ i by omega), h1]
    rw [e]; exact h4 _ (by simp at hi; omega)

theorem args_rel (hs : Slots w S β O σ a.tmps) {l : Array Operand} {l' : List Od} (h : odsOf l.toList = some l') : (l.map a.eval).size = (l'.map (ev σ)).length ∧ ∀ i (_ : i < (l'.map (ev σ)).length), SR w S β O (l'.map (ev σ))[i] ((l.map a.eval).getD i undef) := by
  obtain ⟨h1, h2⟩ := ods_rel hs h
  have h1' : l'.length = l.size := by simpa using h1
  refine ⟨by simp [h1'], fun i hi => ?_⟩
  have hi' : i < l'.length := by simpa using hi
  have hj : i < l.size := by omega
  have := h2 i hi' (by simpa using hj)
  simpa [Array.getElem?_eq_getElem hj] using this

theorem run_call {c : Call} {f : Operand} {g : FuncId} {va vc : Array Value} (ho : o.op = .call c) (hc : c.callee = .value f) (hf : a.eval f = .func (.func g) va vc) (hg : callable P g) :
    (execOp a.eval o).run P w = .ok (.enter g (va ++ c.args.map a.eval ++ vc)) w := by
  obtain ⟨fn, h1, h2, h3⟩ := hg
  obtain ⟨b, hb⟩ := Option.isSome_iff_exists.1 h2
  simp [execOp, ho, resolve, hc, hf, Deferred.ofValue, invoke, callFunc, h1, hb, show (fn.name = "runtime.NumGoroutine") = False by simpa using h3]

theorem resO_nil (n : Nat) : resO [] [] n = none := by simp [resO]
theorem Rel.empty {S2 : Nat → Prop} (h : ∀ b, S2 b → b < w.heap.size) : Rel w S2 β (resO [] []) :=
  ⟨fun n hn => absurd (resO_nil n) hn, fun n m hn => absurd (resO_nil n) hn, fun b hb => ⟨h b hb, fun n hn => absurd (resO_nil n) hn⟩, fun n o hn => by rw [resO_nil] at hn; cases hn⟩

theorem sim_call (hΓ : GS P Γ) (hr : Rel w S β O) (hs : Slots w S β O σ a.tmps) {c : Call} {f : Operand} {f' : Od} {args : List Od} (ho : o.op = .call c) (hc : c.callee = .value f) (hf : odOf f = some f') (hargs : odsOf c.args.toList = some args)
    (hd : stepD Γ O (ev σ) (.call f' args) = some v) {K : Act → World → Prop} {Q : Exit → Act → World → Prop} (hK : ∀ x w' S', Grow w w' S S' → SR w' S' β O v x → K (a.put o.dst x) w') : o.wp P a w K Q := by
  simp only [stepD] at hd
  split at hd
  · rename_i g p q hcal
    obtain ⟨va, vc, hfv, h1, h2, h3, h4⟩ := callee_rel (od_rel hs hf) hcal
    obtain ⟨h5, h6⟩ := args_rel hs hargs
    obtain ⟨h7, h8⟩ := append_rel h1 h5 h3 h6
    obtain ⟨h9, h10⟩ := append_rel h7 h2 h8 h4
    split at hd
    · rename_i vs hvs
      split at hd
      · rename_i r fs hg
        split at hd
        · rename_i hcond
          injection hd with hd; subst hd
          obtain ⟨hcl, hpc⟩ := hΓ _ _ _ _ _ _ hg
          obtain ⟨hl, hh⟩ := mapM_some hvs
          -- what the callee may lean on
          have main : ∀ (S2 : Nat → Prop), (∀ b, S b → S2 b) → (∀ b, S2 b → b < w.heap.size) → (∀ i (_ : i < (p ++ args.map (ev σ) ++ q).length), ((p ++ args.map (ev σ) ++ q)[i]).refs = [] ∨ ∀ n, O n ≠ none → S2 (β n)) →
              ((∀ b, S2 b → S b) ∨ (r.scal && fs.all Ob.scal) = true) → o.wp P a w K Q := by
            intro S2 hS2 hlt hq hcs
            have hargs' : ∀ i (_ : i < (vs.map SV.p).length), SR w S2 β (resO [] []) (vs.map SV.p)[i] ((va ++ c.args.map a.eval ++ vc).getD i undef) := fun i hi => by
              have hi' : i < vs.length := by simpa using hi
              have := snap_rel hr hS2 4 (hq i (by omega)) (h10 i (by omega)) (hh i (by omega) hi')
              simpa using SR.p _ _ this
            have hcalls := hpc w S2 β (va ++ c.args.map a.eval ++ vc) (Rel.empty hlt) (by rw [h9]; simp [hl]) hargs'
            unfold Oper.wp
            rw [run_call ho hc hfv hcl, Oper.upon_enter]
            refine hcalls.mono fun e w' ⟨x, S', β', he, hfr, hup, hnew, _, hfresh, _, hrel, hsr⟩ => ?_
            subst he
            rw [resG_nil] at hrel hsr
            show K (a.put o.dst x) w'
            have hfr' : Fr w w' fun _ => False := hfr.mono fun b _ ⟨n, hn, _⟩ => absurd (resO_nil n) hn
            have hF : ∀ n, resO [] fs n ≠ none → w.heap.size ≤ β' n ∧ β' n < w'.heap.size := fun n hn => by
              refine ⟨?_, hrel.live n hn⟩
              have hn' := hn
              simp only [resO] at hn'
              split at hn'
              · rename_i hge
                have hj : n - 2000000 < fs.length := by
                  rcases Nat.lt_or_ge (n - 2000000) fs.length with h | h
                  · exact h
                  · rw [List.getElem?_eq_none h] at hn'; exact absurd rfl hn'
                rcases hfresh (n - 2000000) hj with this | ⟨i, hi, _⟩
                · have e : F (n - 2000000) = n := by simp only [F]; omega
                  rw [e] at this; exact this
                · simp at hi
              · split at hn' <;> simp at hn'
            refine hK x w' (fun b => S b ∨ (w.heap.size ≤ b ∧ b < w'.heap.size)) ⟨hfr', fun b hb => .inl hb, fun b hb => hb⟩ ?_
            refine thaw_rel hrel hsr (fun n hn => .inr (hF n hn)) (hcs.imp (fun h b hb => ?_) id)
            rcases hnew b hb with g | g | ⟨i, hi, _⟩
            · exact .inl (h b g)
            · exact .inr ⟨g, (hrel.sep b hb).1⟩
            · simp at hi
          rcases hcond with hnil | hsc
          · exact main S (fun _ h => h) (fun b hb => (hr.sep b hb).1) (fun i hi => .inl (refsL_nil hnil hi)) (.inl fun _ h => h)
          · exact main (fun b => S b ∨ ∃ n, O n ≠ none ∧ β n = b) (fun _ h => .inl h) (fun b hb => hb.elim (fun h => (hr.sep b h).1) fun ⟨n, hn, e⟩ => e ▸ hr.live n hn) (fun i hi => .inr fun n hn => .inr ⟨n, hn, rfl⟩) (.inr hsc)
        · cases hd
      · cases hd
    · cases hd
  · cases hd

theorem opOf_call {f : Od} {l : List Od} (hop : opOf P ann o = some (.d (.call f l))) : ∃ c f0, o.op = .call c ∧ c.callee = .value f0 ∧ odOf f0 = some f ∧ odsOf c.args.toList = some l := by
  cases hoo : o.op with
  | call c =>
    simp only [opOf, hoo] at hop
    split at hop
    · rename_i f0 args hc hargs
      split at hop
      · rename_i f1 hf1
        split at hop
        · split at hop <;> cases hop
        · injection hop with hop; injection hop with hop; injection hop with e1 e2; subst e1; subst e2
          exact ⟨c, f0, rfl, hc, hf1, hargs⟩
      · cases hop
    all_goals ((repeat' split at hop) <;> simp_all)
  | _ => exfalso; simp only [opOf, hoo] at hop; (repeat' split at hop) <;> simp_all

/-- EVERY OPERATION THAT LEAVES THE OBJECTS AS THEY ARE. -/
theorem simD (hΓ : GS P Γ) (hr : Rel w S β O) (hs : Slots w S β O σ a.tmps) {op : DOp} (hop : opOf P ann o = some (.d op)) (hd : stepD Γ O (ev σ) op = some v) {K : Act → World → Prop} {Q : Exit → Act → World → Prop}
    (hK : ∀ x w' S', Grow w w' S S' → SR w' S' β O v x → K (a.put o.dst x) w') : o.wp P a w K Q := by
  by_cases hcall : ∃ f l, op = .call f l
  · obtain ⟨f, l, rfl⟩ := hcall
    obtain ⟨c, f0, ho, hc, hf, hargs⟩ := opOf_call hop
    exact sim_call hΓ hr hs ho hc hf hargs hd hK
  · obtain ⟨x, hx, hv⟩ := simD0 hr hs hop (fun f l e => hcall ⟨f, l, e⟩) hd
    unfold Oper.wp
    rw [hx, Oper.upon_value]
    exact hK x w S (Grow.refl w S) hv
end
end Go.Proofs.YtpobnchalcokoaaDoor.Pam
