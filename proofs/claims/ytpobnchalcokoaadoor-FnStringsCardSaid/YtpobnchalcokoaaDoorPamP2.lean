/- A part of the proof that stands in this folder: a small machine whose steps are shown to be the steps of the model, or walks of functions by it. No condition of its own. -/
import Derived.Test.YtpobnchalcokoaaDoorPamP
set_option linter.unusedVariables false
set_option linter.unusedSimpArgs false
namespace Go.Proofs.YtpobnchalcokoaaDoor.Pam
open Go

section
variable {P : Program} {w w' w1 : World} {S S' S2 : Nat → Prop} {β β' : Nat → Nat} {O O' OL : Objs} {σ σ' : Env} {a : Act} {o : Oper} {v : SV} {ann : Nat → Option Ann} {Γ : Gam} {tmps : Array Value} {K : Act → World → Prop} {Q : Exit → Act → World → Prop}

theorem refsL_p (zs : List PV) : SV.refsL (zs.map SV.p) = [] := by
  induction zs with
  | nil => rfl
  | cons z r ih => simp [SV.refsL, SV.refs, ih]

theorem callC_new {d own : Nat} {le : List Nat} {fv : SV} {args : List SV} {upd new : List (Nat × Ob)} (h : callC Γ O d own le fv args = some (v, upd, new)) : (∀ n ∈ new.map (·.1), n ∈ nms d own) ∧ ∀ p ∈ new, plainOb p.2 = true := by
  unfold callC at h
  split at h
  · split at h
    · split at h
      · rename_i fs _
        split at h
        · rename_i hcond
          injection h with h; injection h with e1 e2; injection e2 with e2 e3
          refine ⟨fun n hn => ?_, ?_⟩
          · rw [← e3, newC_names0, mem_nms] at hn
            obtain ⟨j, h, e⟩ := hn
            exact mem_nms.2 ⟨j, by omega, e⟩
          · have : ∀ (j : Nat) (fs : List Ob), fs.all plainOb = true → ∀ p ∈ newC d j fs, plainOb p.2 = true := by
              intro j fs
              induction fs generalizing j with
              | nil => intro _ p hp; simp [newC] at hp
              | cons x r ih =>
                intro h p hp
                simp only [List.all_cons, Bool.and_eq_true] at h
                rcases List.mem_cons.1 hp with e | hp
                · rw [e]; exact h.1
                · exact ih _ h.2 p hp
            rw [← e3]; exact this 0 fs hcond.2.2.1
        · cases h
      · cases h
    · cases h
  · cases h

theorem stepM_made {ro : RO} {op : WOp} (hop : ro.op = .w op) {p : SV × List (Nat × Ob)} (hd : stepM Γ ro.dst O (ev σ) op = some p) (hs : ro.dst.isSome = true) (hns : op.isUp = false) : (∀ n ∈ p.2.map (·.1), n ∈ madeBy ro) ∧ ∀ q ∈ p.2, plainOb q.2 = true := by
  obtain ⟨dst, g, aop⟩ := ro
  simp only at hop hd hs
  subst hop
  cases dst with
  | none => simp at hs
  | some d =>
    cases op <;> simp only [stepM] at hd <;> first | (cases hd; done) | skip
    case store n y x => simp [WOp.isUp] at hns
    case alloc z =>
      simp only [Option.map_some, Option.some.injEq] at hd; subst hd
      exact ⟨by simp [madeBy], by simp [plainOb, refsL_p]⟩
    case box n x =>
      split at hd
      · rename_i h1 h2
        injection h1 with h1; subst h1
        split at hd
        · rename_i hc
          injection hd with hd; subst hd
          exact ⟨by simp [madeBy], fun q hq => by simp only [List.mem_singleton] at hq; subst hq; exact hc.2⟩
        · cases hd
      · cases hd
    case bslice sz zs ps =>
      split at hd
      · rename_i h1 h2
        injection h1 with h1; subst h1
        injection hd with hd; subst hd
        exact ⟨by simp [madeBy], by simp [plainOb]⟩
      · cases hd
    case mkslice sz z l =>
      split at hd
      · rename_i h1 h2
        injection h1 with h1; subst h1
        split at hd
        · injection hd with hd; subst hd
          exact ⟨by simp [madeBy], by simp [plainOb]⟩
        · cases hd
      · cases hd
    case callL f l lend own fzs =>
      cases lend with
      | cons _ _ => simp [WOp.isUp] at hns
      | nil => cases fzs with
        | true => cases hd
        | false =>
          simp only at hd
          split at hd
          · rename_i v upd new hc
            injection hd with hd; subst hd
            obtain ⟨h1, h2⟩ := callC_new hc
            exact ⟨fun n hn => by simpa [madeBy] using h1 n hn, h2⟩
          · cases hd

def MOut (w w' : World) (S S' : Nat → Prop) (β β' : Nat → Nat) (O : Objs) (p : SV × List (Nat × Ob)) (x : Value) : Prop :=
  Grow w w' S S' ∧ (∀ n, n ∉ p.2.map (·.1) → β' n = β n) ∧ (∀ n ∈ p.2.map (·.1), w.heap.size ≤ β' n) ∧ Rel w' S' β' (setL p.2 O) ∧ SR w' S' β' (setL p.2 O) p.1 x

theorem made_out {d b0 : Nat} {ob : Ob} {x : Value} (hr : Rel w S β O) (hno : O d = none ∧ ∀ m cs, O m = some (.box cs) → d ∉ SV.refsL cs) (hf : Fr w w1 fun _ => False) (hb : w.heap.size ≤ b0) (hb1 : b0 < w1.heap.size) (hmade : Made w w1 S β O b0 ob) (hpl : plainOb ob = true)
    (hx : ∀ β', β' d = b0 → SR w1 S β' (setO d (some ob) O) v x) : MOut w w1 S S β (fun n => if n = d then b0 else β n) O (v, [(d, ob)]) x := by
  have hw : ∀ b, b < w.heap.size → w1.heap[b]? = w.heap[b]? := fun b h => hf.block b h id
  refine ⟨⟨hf, fun _ h => h, fun _ h => .inl h⟩, fun n hn => ?_, fun n hn => ?_, ?_, hx _ (by simp)⟩
  · simp only [List.map_cons, List.map_nil, List.mem_singleton] at hn; simp [hn]
  · simp only [List.map_cons, List.map_nil, List.mem_singleton] at hn; simp [hn, hb]
  · refine Rel.put (fun b h _ => hw b h) hf.size (fun n hn => by have := hr.live n hn; omega) (fun h => by have := (hr.sep b0 h).1; omega) hr (fun _ h => h) (fun b h => .inl h) hb1 (fun m cs h => hno.2 m cs h) hno.1 ?_
    cases ob with
    | box cs =>
      obtain ⟨c, ty, h1, h2, h3⟩ := hmade
      refine ⟨c, ty, by simpa using h1, h2, fun i hi => (h3 i hi).mono (fun b hb => ⟨hb, hw b (hr.sep b hb).1⟩) fun n hn => ?_⟩
      simp only [plainOb, List.isEmpty_iff] at hpl
      have := refsL_mem hi hn
      simp [hpl] at this
    | arr sz xs =>
      obtain ⟨c, ty, h1, h2, h3, h4⟩ := hmade
      exact ⟨c, ty, by simpa using h1, h2, h3, fun i hi => (h4 i hi).mono fun b hb => ⟨hb, hw b (hr.sep b hb).1⟩⟩
    | map es =>
      obtain ⟨rfl, ck, h1⟩ := hmade
      exact ⟨#[], ck, by simpa using h1, rfl, fun i hi => by simp at hi, fun i hi => by simp at hi⟩

/-- An operation that makes objects and changes none. -/
theorem sim_M (hΓ : GS P Γ) (hr : Rel w S β O) (hs : Slots w S β O σ a.tmps) {ro : RO} {op : WOp} (he : ro.op = .w op) (hdst : ro.dst = o.dst) (hds : ro.dst.isSome = true) (hns : op.isUp = false) (hop : opOf P ann o = some (.w op)) (hdb : ∀ d, o.dst = some d → d < 50000)
    (hno : ∀ n ∈ madeBy ro, O n = none ∧ ∀ m cs, O m = some (.box cs) → n ∉ SV.refsL cs) {p : SV × List (Nat × Ob)} (hd : stepM Γ ro.dst O (ev σ) op = some p)
    (hK : ∀ x w' S' β', MOut w w' S S' β β' O p x → K (a.put o.dst x) w') : o.wp P a w K Q := by
  obtain ⟨dst, g, aop⟩ := ro
  simp only at he hdst hds hno hd
  subst he
  cases dst with
  | none => simp at hds
  | some d =>
    have main : ∀ {b0 : Nat} {ob : Ob} {v : SV} {x : Value} {w1 : World}, p = (v, [(d, ob)]) → (O d = none ∧ ∀ m cs, O m = some (.box cs) → d ∉ SV.refsL cs) → Fr w w1 (fun _ => False) → w.heap.size ≤ b0 → b0 < w1.heap.size → Made w w1 S β O b0 ob → plainOb ob = true →
        (∀ β', β' d = b0 → SR w1 S β' (setO d (some ob) O) v x) → (execOp a.eval o).run P w = .ok (.value x) w1 → o.wp P a w K Q := by
      intro b0 ob v x w1 hp h1 h2 h3 h4 h5 h6 h7 h8
      unfold Oper.wp
      rw [h8, Oper.upon_value]
      subst hp
      exact hK x w1 S _ (made_out hr h1 h2 h3 h4 h5 h6 h7)
    unfold opOf at hop
    split at hop
    · cases h : odOf (by assumption) <;> simp [h] at hop
    · cases h : odOf (by assumption) <;> simp [h] at hop
    · split at hop <;> cases hop
    · rename_i t ho
      split at hop
      · cases h : tyZero P t with
        | none => simp [h] at hop
        | some z => simp [h] at hop; subst hop; simp [stepM] at hd
      · cases h : tyZero P t with
        | none => simp [h] at hop
        | some z =>
          simp [h] at hop; subst hop
          simp only [stepM, Option.map_some, Option.some.injEq] at hd
          obtain ⟨zv, hzr, hzp⟩ := run_zero (w := w) h
          refine main (ob := .box (z.cells.map .p)) hd.symm (hno d (by simp [madeBy])) (Fr.alloc w (.cells zv.cells t)) (Nat.le_refl _) (by simp) ⟨zv.cells, t, heap_alloc_new w _, CR.zero (ofVal_rel hzp)⟩ (by simp [plainOb, refsL_p]) (x := .pointer (some ⟨w.heap.size, 0, none⟩)) (fun β' hb => ?_) ?_
          · rw [← hb]; exact .bx d 0 (z.cells.map .p) (by simp [setO])
          · simp [execOp, ho, Instr.alloc, hzr, newVar, newRow]
    · rename_i t x ho
      split at hop
      · rename_i h1 h2
        injection hop with hop; injection hop with hop; subst hop
        simp only [stepM] at hd
        split at hd
        · rename_i d' cs hdd hc
          injection hdd with hdd; subst hdd
          split at hd
          · rename_i hcc
            injection hd with hd
            refine main (ob := .box cs) hd.symm (hno d (by simp [madeBy])) (Fr.alloc w (.cells (a.eval x).cells t)) (Nat.le_refl _) (by simp) ⟨(a.eval x).cells, t, heap_alloc_new w _, cellsA_rel (od_rel hs h2) hc⟩ hcc.2 (x := .pointer (some ⟨w.heap.size, 0, none⟩)) (fun β' hb => ?_) ?_
            · rw [← hb]; exact .bx d 0 cs (by simp [setO])
            · simp [execOp, ho, Instr.box, newVar, newRow]
          · cases hd
        · cases hd
      · cases hop
    · split at hop
      · split at hop <;> cases hop
      · cases hop
    · rename_i t n ps ho
      split at hop
      · rename_i e he
        split at hop
        · rename_i hsz hz hps
          split at hop
          · rename_i hb
            split at hop
            · injection hop with hop; injection hop with hop; subst hop
              simp [stepM] at hd
            injection hop with hop; injection hop with hop; subst hop
            rename_i sz z ps' _ _
            obtain ⟨hb1, h0, hzl⟩ := hb
            have hu : P.underlying t = some (.slice e) := by
              unfold tyElem at he; split at he
              · rename_i h; injection he with he; subst he; exact h
              · cases he
            simp only [stepM] at hd
            split at hd
            · rename_i d' xs hdd hpa
              injection hdd with hdd; subst hdd
              injection hd with hd
              obtain ⟨zv, hzr, hzp⟩ := run_zero (w := w) hz
              obtain ⟨_, ty0, hm0, hszs, hle, hrel⟩ := made_zero (S := S) (β := β) (O := O) (n := n) (ofVal_rel (w := w) hzp) hzl 0 (w.alloc (.cells (madeCells zv.cells (n * sz)) 0)) w.heap.size (heap_alloc_new w _)
              rw [heap_alloc_new] at hm0
              injection hm0 with hm0; injection hm0 with hm1 hm2
              subst hm1
              have hfl := flat_length hszs
              rw [List.length_replicate] at hfl
              have hcr : CR w S β O ((flat (List.replicate n z)).map .p) (madeCells zv.cells (n * sz)) := ⟨by simp [hfl, size_madeCells], fun i hi => by simpa using SR.p _ _ (hrel i (by simpa using hi))⟩
              obtain ⟨C', hfill, hC', hz', hl'⟩ := parts2_rel (n := n) hs hps (by simp) hszs hcr hpa
              have hfl' := flat_length hz'
              rw [hl'] at hfl'
              have hC : C'.size = n * sz := by have := hC'.1; simp at this; omega
              have hrun : (execOp a.eval o).run P w = .ok (.value (.slice (some ⟨w.heap.size, 0, none⟩) n n)) (w.alloc (.cells C' e)) := by
                have hpl : (ps.map fun (i, x) => (i, a.eval x)).toList = ps.toList.map fun p => (p.1, a.eval p.2) := by simp
                simp only [execOp, ho, Instr.buildSlice, Sem.run_bind, run_underlying hu, Result.andThen_ok, run_sz hsz]
                rw [if_neg (by omega)]
                by_cases h : n * sz = 0
                · have hmade : (Array.range (n * sz)).map (fun k => (#[] : Array Value)[k % (#[] : Array Value).size]!) = madeCells zv.cells (n * sz) := by
                    simp [h, madeCells]
                  rw [if_pos h]
                  simp only [pure_bind]
                  rw [hmade, hpl, hfill]
                  simp [newRow]
                · have hmade : (Array.range (n * sz)).map (fun k => zv.cells[k % zv.cells.size]!) = madeCells zv.cells (n * sz) := by
                    simp [madeCells]
                  rw [if_neg h]
                  simp only [pure_bind, Sem.run_bind, hzr, Result.andThen_ok]
                  rw [hmade, hpl, hfill]
                  simp [newRow]
              refine main (ob := .arr sz xs) hd.symm (hno d (by simp [madeBy])) (Fr.alloc w (.cells C' e)) (Nat.le_refl _) (by simp) ⟨C', e, heap_alloc_new w _, hz', by omega, fun i hi => by
                have := hC'.2 i (by simpa using hi)
                simpa using (by simpa using this : SR w S β O (.p (flat xs)[i]) _).p_inv⟩ (by simp [plainOb]) (fun β' hb => ?_) hrun
              have hsr := SR.ar (w := w.alloc (.cells C' e)) (S := S) (β := β') (O := setO d (some (.arr sz xs)) O) d sz n xs (by simp [setO]) (by omega) (by rw [hb, bsz_cells (heap_alloc_new w _), hC]; exact Nat.le_refl _)
              rw [hb, hl'] at hsr
              exact hsr
            · cases hd
          · cases hop
        · cases hop
      · cases hop
    · split at hop <;> cases hop
    · split at hop
      · injection hop with hop; injection hop with hop; subst hop
        simp [WOp.isUp] at hns
      · cases hop
    · cases h : odOf (by assumption) <;> simp [h] at hop
    · split at hop <;> cases hop
    · cases h : odOf (by assumption) <;> simp [h] at hop
    · cases h : odOf (by assumption) <;> simp [h] at hop
    · split at hop
      · cases hop
      · split at hop <;> cases hop
      · cases hop
    · split at hop <;> cases hop
    · split at hop <;> (injection hop with hop; injection hop with hop; subst hop; simp [stepM] at hd)
    · rename_i t l c ho
      split at hop
      · rename_i hlc
        subst hlc
        split at hop
        · rename_i e he
          split at hop
          · rename_i i z hi hz
            split at hop
            · rename_i hb
              injection hop with hop; injection hop with hop; subst hop
              have ht : P.underlying t = some (.slice e) := by
                unfold tyElem at he; split at he
                · rename_i h; injection he with he; subst he; exact h
                · cases he
              simp only [stepM] at hd
              split at hd
              · rename_i d' n hdd hn
                injection hdd with hdd; subst hdd
                split at hd
                · rename_i hroom
                  injection hd with hd
                  obtain ⟨k, hk⟩ := natOf_val (hs l) hn
                  have hk' : a.eval (.tmp l) = .int k n := hk
                  have hzz := hz
                  unfold tyZero at hzz
                  simp only [hi] at hzz
                  cases hiz : i.zero with
                  | none => simp [hiz] at hzz
                  | some zv =>
                    simp only [hiz] at hzz
                    have hroom' : n ≤ 4294967296 := hroom
                    have hbn : i.bytes * n ≤ 65536 * 4294967296 := Nat.mul_le_mul hb.1 hroom'
                    have hrun := run_make (P := P) w t e i zv ht hi hiz k k (n : Int) (n : Int) (by omega) (by omega) (by rw [← Int.natCast_mul]; omega) (by omega)
                    simp only [Int.toNat_natCast] at hrun
                    refine main (ob := .arr i.size (List.replicate n z)) hd.symm (hno d (by simp [madeBy])) (Fr.alloc w _) (Nat.le_refl _) (by simp) (made_zero (ofVal_rel hzz) hb.2.2 e _ _ (heap_alloc_new w _)) (by simp [plainOb]) (x := .slice (some ⟨w.heap.size, 0, none⟩) n n) (fun β' hb' => ?_) ?_
                    · have hsr := SR.ar (w := w.alloc (.cells (madeCells zv.cells (n * i.size)) e)) (S := S) (β := β') (O := setO d (some (.arr i.size (List.replicate n z))) O) d i.size n (List.replicate n z) (by simp [setO]) (by simp) (by rw [hb', bsz_cells (heap_alloc_new w _)]; simp [madeCells])
                      rw [hb'] at hsr
                      simpa using hsr
                    · simp only [execOp, ho, hk', Sem.run_bind, hrun, Result.andThen_ok, Sem.run_pure]
                · cases hd
              · cases hd
            · cases hop
          · cases hop
        · cases hop
      · cases hop
    · split at hop
      · split at hop <;> cases hop
      · split at hop <;> cases hop
      · split at hop
        · split at hop
          · split at hop
            · injection hop with hop; injection hop with hop; subst hop
              simp [stepM] at hd
            · cases hop
          · cases hop
        · cases hop
      · cases hop
    · split at hop
      · split at hop <;> cases hop
      · cases hop
    · split at hop
      · split at hop
        · split at hop
          · split at hop <;> cases hop
          · cases hop
        · cases hop
      · cases hop
    · split at hop
      · split at hop
        · split at hop <;> cases hop
        · cases hop
      · cases hop
    · split at hop
      · split at hop <;> cases hop
      · split at hop <;> cases hop
      · cases hop
    · split at hop <;> cases hop
    · split at hop
      · split at hop <;> cases hop
      · cases hop
    · split at hop
      · split at hop
        · injection hop with hop; injection hop with hop; subst hop
          simp [stepM] at hd
        · cases hop
      · cases hop
    · cases h : odOf (by assumption) <;> simp [h] at hop
    · rename_i c0 ho0
      split at hop
      · rename_i hc0 hargs0
        split at hop
        · rename_i hf0
          split at hop
          · split at hop
            · rename_i hcond
              injection hop with hop; injection hop with hop; subst hop
              rename_i an _
              obtain ⟨lend, own, fzs⟩ := an
              simp only at hd hcond hno
              cases lend with
              | cons _ _ => simp [WOp.isUp] at hns
              | nil => cases fzs with
                | true => simp [stepM] at hd
                | false =>
                  simp only [stepM, Option.getD_some] at hd
                  split at hd
                  · rename_i v upd new hcc
                    injection hd with hd
                    obtain ⟨h5, h6⟩ := args_rel hs hargs0
                    have hdd : d < 50000 := hdb d hdst.symm
                    obtain ⟨g, va, vc, hfv, hcl, hnew, hcalls⟩ := call_core hΓ hr (od_rel hs hf0) h5 h6 hdd (hcond.2.2.resolve_right fun h => h.2.2 rfl) (by simp) (by simp) (by simp) (fun n hn => (hno n (by simpa [madeBy] using hn)).1) (fun m cs hm n hn => (hno n (by simpa [madeBy] using hn)).2 m cs hm) hcc
                    unfold Oper.wp
                    rw [run_call ho0 hc0 hfv hcl, Oper.upon_enter]
                    refine hcalls.mono fun e w' ⟨x, he, S', β', c1, c2, c3, c4, c5, c6, c7, c8⟩ => ?_
                    subst he; subst hd
                    have hu : upd = [] := by
                      cases upd with
                      | nil => rfl
                      | cons q r => have := callC_up hcc q.1 (by simp); simp at this
                    subst hu
                    exact hK x w' S' β' ⟨⟨c1.mono fun b _ ⟨n, hn, _⟩ => by simp at hn, c2, c3⟩, c4, c5, c6, c8⟩
                  · cases hd
            · cases hop
          · cases hop
        · cases hop
      · rename_i x hc hargs
        cases ht : (by assumption : Call).argTypes[0]? with
        | none => simp [ht] at hop
        | some t =>
          simp only [ht, Option.bind_some] at hop
          split at hop <;> cases hop
      · split at hop
        · split at hop
          · injection hop with hop; injection hop with hop; subst hop
            simp [stepM] at hd
          · cases hop
        · cases hop
      · split at hop
        · split at hop
          · split at hop
            · injection hop with hop; injection hop with hop; subst hop
              simp [stepM] at hd
            · cases hop
          · cases hop
        · cases hop
      · cases hop
      · cases hop
      · split at hop
        · split at hop
          · split at hop
            · injection hop with hop; injection hop with hop; subst hop
              simp [stepM] at hd
            · cases hop
          · cases hop
        · cases hop
      · cases hop
    · cases hop

/-- Seen with all that stands there. -/
theorem join {ex : List Nat} {p : SV × List (Nat × Ob)} {x : Value} (hr : Rel w S β OL) (h : MOut w w' S S' β β' (hideO ex OL) p x) (hn : ∀ n ∈ p.2.map (·.1), OL n = none ∧ (∀ m cs, OL m = some (.box cs) → n ∉ SV.refsL cs) ∧ n < 1000000) (hpl : ∀ q ∈ p.2, plainOb q.2 = true) (hof : offs ex p.1 = true) :
    Step w w' S S' β β' OL (setL p.2 OL) ∧ Rel w' S' β' (setL p.2 OL) ∧ (∀ u y, SR w S β OL u y → (∀ n ∈ u.refs, n ∉ p.2.map (·.1)) → SR w' S' β' (setL p.2 OL) u y) ∧ SR w' S' β' (setL p.2 OL) p.1 x := by
  obtain ⟨hg, h1, h2, h3, h4⟩ := h
  have hout : ∀ n, n ∉ p.2.map (·.1) → setL p.2 OL n = OL n := fun n h => setL_miss h
  have hin : ∀ n, n ∈ p.2.map (·.1) → setL p.2 (hideO ex OL) n = setL p.2 OL n := fun n h => setL_in h _ _
  have hsome : ∀ n, n ∈ p.2.map (·.1) → setL p.2 OL n ≠ none := fun n h => by obtain ⟨ob, _, e⟩ := setL_some h OL; rw [e]; simp
  have lift : ∀ u y, SR w S β OL u y → (∀ n ∈ u.refs, n ∉ p.2.map (·.1)) → SR w' S' β' (setL p.2 OL) u y := fun u y hs hu =>
    hs.mono (fun b hb => ⟨hg.up b hb, hg.blk (hr.sep b hb).1⟩) fun n hn => by
      have e := hout n (hu n hn)
      cases ho : OL n with
      | none => exact .inl (by rw [e, ho])
      | some ob => exact .inr ⟨ob, ob, rfl, by rw [e, ho], likeO_refl ob, h1 n (hu n hn), hg.fr.same _ (hr.live n (by rw [ho]; simp))⟩
  have hcase : ∀ n, setL p.2 OL n ≠ none → n ∈ p.2.map (·.1) ∨ (n ∉ p.2.map (·.1) ∧ OL n ≠ none) := fun n hn' => by
    by_cases h : n ∈ p.2.map (·.1)
    · exact .inl h
    · exact .inr ⟨h, by rw [hout n h] at hn'; exact hn'⟩
  have hin' : ∀ n, n ∈ p.2.map (·.1) → setL p.2 (hideO ex OL) n ≠ none := fun n h => by rw [hin n h]; exact hsome n h
  refine ⟨⟨hg.fr.mono fun _ _ h => h.elim, hg.up, fun b hb => (hg.new b hb).imp id .inr, fun i => h1 _ fun h => ?_, fun n hne hlt => ?_⟩, ⟨fun n hne => ?_, fun n m hne hme he => ?_, fun b hb => ⟨(h3.sep b hb).1, fun n hne => ?_⟩, fun n ob ho => ?_⟩, lift, ?_⟩
  · have := (hn _ h).2.2; simp only [X] at this; omega
  · rcases hcase n hne with h | ⟨h, h'⟩
    · have := h2 n h; omega
    · exact ⟨n, h', h1 n h⟩
  · rcases hcase n hne with h | ⟨h, h'⟩
    · exact h3.live n (hin' n h)
    · rw [h1 n h]; exact Nat.lt_of_lt_of_le (hr.live n h') hg.fr.size
  · rcases hcase n hne with h | ⟨h, h'⟩ <;> rcases hcase m hme with g | ⟨g, g'⟩
    · exact h3.inj n m (hin' n h) (hin' m g) he
    · rw [h1 m g] at he; have := h2 n h; have := hr.live m g'; omega
    · rw [h1 n h] at he; have := h2 m g; have := hr.live n h'; omega
    · rw [h1 n h, h1 m g] at he; exact hr.inj n m h' g' he
  · rcases hcase n hne with h | ⟨h, h'⟩
    · exact (h3.sep b hb).2 n (hin' n h)
    · rw [h1 n h]
      rcases hg.new b hb with g | ⟨g, _⟩
      · exact (hr.sep b g).2 n h'
      · have := hr.live n h'; omega
  · rcases hcase n (by rw [ho]; simp) with h | ⟨h, h'⟩
    · have hob := h3.obj n ob (by rw [hin n h, ho])
      obtain ⟨ob', hm, e⟩ := setL_some h OL
      rw [ho] at e; injection e with e; subst e
      have hp := hpl _ hm
      cases ob with
      | box cs =>
        obtain ⟨c, ty, g1, g2, g3⟩ := hob
        refine ⟨c, ty, g1, g2, fun i hi => (g3 i hi).mono (fun b hb => ⟨hb, rfl⟩) fun k hk => ?_⟩
        simp only [plainOb, List.isEmpty_iff] at hp
        have := refsL_mem hi hk
        simp [hp] at this
      | arr sz xs => exact hob
      | map es => exact hob
    · rw [hout n h] at ho
      have hob := hr.obj n ob ho
      have hb := hg.blk (hr.live n h')
      cases ob with
      | box cs =>
        obtain ⟨c, ty, g1, g2, g3⟩ := hob
        exact ⟨c, ty, by rw [h1 n h, hb]; exact g1, g2, fun i hi => lift _ _ (g3 i hi) fun k hk hkn => (hn k hkn).2.1 n cs ho (refsL_mem hi hk)⟩
      | arr sz xs =>
        obtain ⟨c, ty, g1, g2, g3, g4⟩ := hob
        exact ⟨c, ty, by rw [h1 n h, hb]; exact g1, g2, g3, fun i hi => (g4 i hi).mono fun b hb => ⟨hg.up b hb, hg.blk (hr.sep b hb).1⟩⟩
      | map es =>
        obtain ⟨en, ck, g1, g2, g3, g4⟩ := hob
        exact ⟨en, ck, by rw [h1 n h, hb]; exact g1, g2, fun i hi => (g3 i hi).mono fun b hb => ⟨hg.up b hb, hg.blk (hr.sep b hb).1⟩, fun i hi => (g4 i hi).mono fun b hb => ⟨hg.up b hb, hg.blk (hr.sep b hb).1⟩⟩
  · refine h4.mono (fun b hb => ⟨hb, rfl⟩) fun n hnr => ?_
    have hne : n ∉ ex := by
      have := List.all_eq_true.1 hof n hnr
      simpa using this
    have e : setL p.2 (hideO ex OL) n = setL p.2 OL n := by
      by_cases h : n ∈ p.2.map (·.1)
      · exact hin n h
      · rw [setL_miss h, setL_miss h, hideO_out hne]
    cases ho : setL p.2 OL n with
    | none => exact .inl rfl
    | some ob => exact .inr ⟨ob, ob, by rw [e, ho], rfl, likeO_refl ob, rfl, rfl⟩
end
end Go.Proofs.YtpobnchalcokoaaDoor.Pam
