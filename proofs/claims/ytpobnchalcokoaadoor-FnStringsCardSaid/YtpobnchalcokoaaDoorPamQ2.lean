/- A part of the proof that stands in this folder: a small machine whose steps are shown to be the steps of the model, or walks of functions by it. No condition of its own. -/
import Derived.Test.YtpobnchalcokoaaDoorPamQ
set_option linter.unusedVariables false
set_option linter.unusedSimpArgs false
namespace Go.Proofs.YtpobnchalcokoaaDoor.Pam
open Go

/-! regions whose order is open: light operations, that may be done at any time, beside a chain of others -/
def hideE (U : Nat → Bool) (σ : Env) : Env := fun i => if U i = true then .junk else σ i
theorem hideE_off {U : Nat → Bool} {σ : Env} {i : Nat} (h : U i = false) : hideE U σ i = σ i := by simp [hideE, h]
theorem hideE_freeze (U : Nat → Bool) (n : Nat) (o : Option Ob) (σ : Env) : freezeE n o (hideE U σ) = hideE U (freezeE n o σ) := by
  funext i
  simp only [freezeE, hideE]
  split
  · rfl
  · rfl
theorem hideE_freezeAll (U : Nat → Bool) : ∀ (ns : List Nat) (σ : Env) (O : Objs), freezeAll ns (hideE U σ, O) = (hideE U (freezeAll ns (σ, O)).1, (freezeAll ns (σ, O)).2)
  | [], _, _ => rfl
  | n :: ns, σ, O => by
    simp only [freezeAll, hideE_freeze]
    exact hideE_freezeAll U ns _ _
theorem hideE_put {U : Nat → Bool} {d : Nat} {v : SV} {σ : Env} (h : U d = false) : put (some d) v (hideE U σ) = hideE U (put (some d) v σ) := by
  funext i
  simp only [put, hideE]
  by_cases hi : i = d
  · subst hi; simp [h]
  · simp only [if_neg hi]
theorem hideE_newA (U : Nat → Bool) (d : Nat) (o : Ob) (v : SV) (σ : Env) (O : Objs) : newA d o v (hideE U σ) O = ((newA d o v σ O).1, hideE U (newA d o v σ O).2.1, (newA d o v σ O).2.2) := by
  simp only [newA, hideE_freeze]

theorem stepW_hide {Γ : Gam} {d : Option Nat} {σ : Env} {O : Objs} {op : WOp} {U : Nat → Bool} (hop : (∃ sz x y, op = .append sz x y) ∨ (∃ sz zs ps, op = .bslice sz zs ps) ∨ ∃ f args own fzs, op = .callL f args [] own fzs ∧ own < 100) (hU : ∀ t ∈ op.tmps, U t = false) {v : SV} {σ' : Env} {O' : Objs}
    (h : stepW Γ d σ O op = some (v, σ', O')) : stepW Γ d (hideE U σ) O op = some (v, hideE U σ', O') := by
  have hev : ∀ (τ : Env) (x : Od), (∀ t ∈ x.tmps, U t = false) → ev (hideE U τ) x = ev τ x := fun τ x hx => ev_congr fun t ht => hideE_off (hx t ht)
  rcases hop with ⟨sz, x, y, rfl⟩ | ⟨sz, zs, ps, rfl⟩ | ⟨f, args, own, fzs, rfl, hown⟩
  · simp only [WOp.tmps, List.mem_append] at hU
    simp only [stepW, hev σ x fun t ht => hU t (.inl ht), hev σ y fun t ht => hU t (.inr ht)] at h ⊢
    cases he : elems O sz (ev σ y) with
    | none => simp [he] at h
    | some ys =>
      simp only [he] at h ⊢
      split at h
      · rename_i m hm
        split at h
        · rename_i s xs hom
          split at h
          · rename_i hc
            simp only [Option.some.injEq, Prod.mk.injEq] at h
            obtain ⟨rfl, rfl, rfl⟩ := h
            simp only [hom, if_pos hc, hideE_freeze]
          · cases h
        · cases h
      · rename_i m k hm
        split at h
        · rename_i s xs hom
          split at h
          · rename_i hc
            simp only [Option.some.injEq, Prod.mk.injEq] at h
            obtain ⟨rfl, rfl, rfl⟩ := h
            simp only [hom, if_pos hc]
          · cases h
        · cases h
      · rename_i hm
        cases ys with
        | nil =>
          simp only [Option.some.injEq, Prod.mk.injEq] at h ⊢
          obtain ⟨rfl, rfl, rfl⟩ := h
          exact ⟨rfl, rfl, rfl⟩
        | cons y0 r =>
          simp only at h ⊢
          split at h
          · rename_i hc
            rw [if_pos hc]
            cases d with
            | none => simp at h
            | some d =>
              simp only [Option.map_some, Option.some.injEq, hideE_newA] at h ⊢
              rw [h]
          · cases h
      · cases h
  · simp only [WOp.tmps] at hU
    cases d with
    | none => simp [stepW] at h
    | some d =>
      have hr : (ps.map fun p => ev (hideE U σ) p.2) = ps.map fun p => ev σ p.2 := List.map_congr_left fun p hp => hev σ p.2 fun t ht => hU t (List.mem_flatMap.2 ⟨p, hp, ht⟩)
      simp only [stepW, hr, hideE_freezeAll] at h ⊢
      generalize freezeAll (SV.refsL (ps.map fun p => ev σ p.2)) (σ, O) = s at h ⊢
      rw [partsA_congr (σ := hideE U s.1) (σ' := s.1) fun t ht => hideE_off (hU t ht)]
      cases hp : partsA (ev s.1) sz ps zs with
      | none => simp [hp] at h
      | some xs =>
        simp only [hp, Option.some.injEq, hideE_newA] at h ⊢
        rw [h]
  · simp only [WOp.tmps, List.mem_append] at hU
    have hf : ∀ τ, ev (hideE U τ) f = ev τ f := fun τ => hev τ f fun t ht => hU t (.inl ht)
    have ha : ∀ τ, args.map (ev (hideE U τ)) = args.map (ev τ) := fun τ => List.map_congr_left fun x hx => hev τ x fun t ht => hU t (.inr (List.mem_flatMap.2 ⟨x, hx, ht⟩))
    simp only [stepW, if_pos hown, hideE_freezeAll, List.filter_nil] at h ⊢
    generalize freezeAll (nms (d.getD 0) own) (σ, O) = s1 at h ⊢
    cases fzs with
    | false =>
      simp only [Bool.false_eq_true, if_false, hf, ha] at h ⊢
      cases hc : callC Γ s1.2 (d.getD 0) own [] (ev s1.1 f) (args.map (ev s1.1)) with
      | none => simp [hc] at h
      | some q =>
        obtain ⟨v1, upd, new⟩ := q
        simp only [hc, Option.some.injEq, Prod.mk.injEq] at h ⊢
        obtain ⟨rfl, rfl, rfl⟩ := h
        exact ⟨rfl, rfl, rfl⟩
    | true =>
      simp only [if_true, ha, hideE_freezeAll, hf] at h ⊢
      generalize freezeAll (List.filter (fun n => !List.contains [] n) (SV.refsL (args.map (ev s1.1)))) (s1.1, s1.2) = s2 at h ⊢
      cases hc : callC Γ s2.2 (d.getD 0) own [] (ev s2.1 f) (args.map (ev s2.1)) with
      | none => simp [hc] at h
      | some q =>
        obtain ⟨v1, upd, new⟩ := q
        simp only [hc, Option.some.injEq, Prod.mk.injEq] at h ⊢
        obtain ⟨rfl, rfl, rfl⟩ := h
        exact ⟨rfl, rfl, rfl⟩

theorem isCh_out {r : RO} (h : isCh r = true) : ∃ d op, r = ⟨some d, none, .w op⟩ ∧ ((∃ sz x y, op = .append sz x y) ∨ (∃ sz zs ps, op = .bslice sz zs ps) ∨ ∃ f args own fzs, op = .callL f args [] own fzs ∧ own < 100) := by
  unfold isCh at h
  split at h
  · exact ⟨_, _, rfl, .inl ⟨_, _, _, rfl⟩⟩
  · exact ⟨_, _, rfl, .inr (.inl ⟨_, _, _, rfl⟩)⟩
  · exact ⟨_, _, rfl, .inr (.inr ⟨_, _, _, _, rfl, by simpa using h⟩)⟩
  · cases h
theorem isLt_out {r : RO} (h : isLt r = true) : ∃ d op, r = ⟨some d, none, .d op⟩ := by
  unfold isLt at h
  split at h
  · exact ⟨_, _, rfl⟩
  · cases h
theorem chkL_mem {Γ : Gam} {σ : Env} {O : Objs} : ∀ {l : List RO}, chkL Γ l σ O → ∀ r ∈ l, ∃ d op, r = ⟨some d, none, .d op⟩ ∧ stepD Γ O (ev σ) op = some (σ d)
  | [], _, r, hr => by simp at hr
  | q :: l, h, r, hr => by
    unfold chkL at h
    split at h
    · cases ‹_ = _›
    · rename_i d op l' _ _ _ e
      injection e with e1 e2; subst e1; subst e2
      rcases List.mem_cons.1 hr with rfl | hr
      · exact ⟨_, _, rfl, h.1⟩
      · exact chkL_mem h.2 r hr
    · exact h.elim

section
variable {P : Program} {w w' w0 : World} {S0 : Nat → Prop} {β0 : Nat → Nat} {O0 : Objs} {N : Nat} {O O' : Objs} {σ σ' : Env} {a : Act} {ann : Nat → Option Ann} {Γ : Gam} {Q : Exit → Act → World → Prop} {ops : Array Oper} {listed : Array Bool}

/-- Where the answers of light operations will stand that have not been done. -/
def unl (ros : List RO) (k : Nat) (listed : Array Bool) (i : Nat) : Bool := (ltIx ros k).any fun j => !listed.getD j false && dstN (ros.getD j default) == i
theorem unl_iff {ros : List RO} {k : Nat} {i : Nat} : unl ros k listed i = true ↔ ∃ j, j < k ∧ isLt (ros.getD j default) = true ∧ listed.getD j false = false ∧ dstN (ros.getD j default) = i := by
  simp only [unl, List.any_eq_true, ltIx, List.mem_filter, List.mem_range, Bool.and_eq_true, Bool.not_eq_true', beq_iff_eq]
  constructor
  · rintro ⟨j, ⟨h1, h2⟩, h3, h4⟩; exact ⟨j, h1, h2, h3, h4⟩
  · rintro ⟨j, h1, h2, h3, h4⟩; exact ⟨j, ⟨h1, h2⟩, h3, h4⟩

theorem any_chain (hΓ : GS P Γ) {Ka : Env → Objs → Prop} (hQ : ∀ σ O a w, Ka σ O → At w0 S0 β0 O0 N σ O a w → Q .normal a w) {ros : List RO} (hros : rosOf P ann ops ops.toList = some ros) (hN : ∀ o ∈ ops.toList, ∀ d, o.dst = some d → d < N)
    {k : Nat} (hkn : k ≤ ops.size) (hback : backOk ops.toList = true) (htail : tailOk (preds ops.toList) k = true) (hkind : ((List.range k).all fun j => isLt (ros.getD j default) || isCh (ros.getD j default)) = true) (hch : chOk (preds ops.toList) (chIx ros k) = true) (hlt : ltOk (preds ops.toList) ros k = true) :
    ∀ (fuel : Nat) (C : List Nat) (listed : Array Bool) (σ : Env) (O : Objs) (a : Act) (w : World), listed.count false ≤ fuel → listed.size = ops.size → (∀ j, j < ops.size → k ≤ j → listed.getD j false = false) →
      (∀ j o, ops[j]? = some o → listed.getD j false = true → ∀ i, edge o i = true → listed.getD i false = true) →
      (∃ D, chIx ros k = D ++ C ∧ (∀ c ∈ D, listed.getD c false = true) ∧ ∀ c ∈ C, listed.getD c false = false) → chOk (preds ops.toList) C = true →
      (∀ j, j < k → isLt (ros.getD j default) = true → listed.getD j false = false → ∃ d op, ros.getD j default = ⟨some d, none, .d op⟩ ∧ stepD Γ O (ev σ) op = some (σ d)) →
      runC Γ (C.map fun c => (ros.getD c default, ((ltIx ros k).filter fun i => !((preds ops.toList).getD c []).contains i).map fun i => ros.getD i default)) σ O (fun σ O => runOps Γ (ros.drop k) σ O Ka) →
      At w0 S0 β0 O0 N (hideE (unl ros k listed) σ) O a w → wpAny P .any ops Q fuel listed a w := by
  obtain ⟨hlen, hget⟩ := rosOf_get hros
  simp only [Array.length_toList] at hlen hget
  have hkind' : ∀ j, j < k → isLt (ros.getD j default) = true ∨ isCh (ros.getD j default) = true := fun j hj => by
    have := List.all_eq_true.1 hkind j (List.mem_range.2 hj)
    simpa [Bool.or_eq_true] using this
  have hlt' : ∀ i j, i < k → isLt (ros.getD i default) = true → j < k → (dstN (ros.getD i default) ∈ (ros.getD j default).looks → i ∈ (preds ops.toList).getD j []) ∧ (j ≠ i → dstN (ros.getD j default) ≠ dstN (ros.getD i default)) := fun i j hi hli hj => by
    simp only [ltOk, List.all_eq_true, ltIx, List.mem_filter, List.mem_range, Bool.and_eq_true, Bool.or_eq_true, Bool.not_eq_true', beq_iff_eq, bne_iff_ne] at hlt
    obtain ⟨h1, h2⟩ := hlt i ⟨hi, hli⟩ j hj
    refine ⟨fun h => ?_, fun h => h2.resolve_left h⟩
    rcases h1 with h1 | h1
    · rw [← Bool.not_eq_true, List.contains_iff_mem] at h1; exact absurd h h1
    · exact List.contains_iff_mem.1 h1
  have hexcl : ∀ r : RO, isLt r = true → isCh r = true → False := fun r h1 h2 => by
    obtain ⟨d, op, rfl⟩ := isLt_out h1
    obtain ⟨d', op', e, _⟩ := isCh_out h2
    cases e
  -- all done
  have hend : ∀ (fuel : Nat) (C : List Nat) (listed : Array Bool) (σ : Env) (O : Objs) (a : Act) (w : World), listed.count false ≤ fuel → listed.size = ops.size → (∀ j, j < ops.size → k ≤ j → listed.getD j false = false) → (∀ i, i < k → listed.getD i false = true) →
      (∃ D, chIx ros k = D ++ C ∧ (∀ c ∈ D, listed.getD c false = true) ∧ ∀ c ∈ C, listed.getD c false = false) →
      runC Γ (C.map fun c => (ros.getD c default, ((ltIx ros k).filter fun i => !((preds ops.toList).getD c []).contains i).map fun i => ros.getD i default)) σ O (fun σ O => runOps Γ (ros.drop k) σ O Ka) →
      At w0 S0 β0 O0 N (hideE (unl ros k listed) σ) O a w → wpAny P .any ops Q fuel listed a w := by
    intro fuel C listed σ O a w hc hsz hnl hall hC hrun hat
    obtain ⟨D, hD, _, hCn⟩ := hC
    have hC0 : C = [] := by
      cases C with
      | nil => rfl
      | cons c r =>
        have hc : c ∈ chIx ros k := by rw [hD]; simp
        simp only [chIx, List.mem_filter, List.mem_range] at hc
        have h1 := hall c hc.1
        rw [hCn c (by simp)] at h1; cases h1
    subst hC0
    have hU : hideE (unl ros k listed) σ = σ := by
      funext i
      refine hideE_off ?_
      rw [← Bool.not_eq_true, unl_iff]
      rintro ⟨j, h1, _, h3, _⟩
      rw [hall j h1] at h3; cases h3
    rw [hU] at hat
    refine any_tail hΓ hQ hros hN hback htail fuel k listed σ O a w hc hsz (Nat.le_refl _) hkn (fun i hi => ?_) hrun hat
    rw [getD_tf (by omega)]
    rcases Nat.lt_or_ge i k with h | h
    · rw [hall i h]; simp [h]
    · rw [hnl i hi h]; simp; omega
  intro fuel
  induction fuel with
  | zero =>
    intro C listed σ O a w hc hsz hnl hcl hC hCok hlp hrun hat
    refine hend 0 C listed σ O a w hc hsz hnl (fun i hi => ?_) hC hrun hat
    rw [← getD_tf (by omega)]; exact count_zero (by omega) i
  | succ fuel ih =>
    intro C listed σ O a w hc hsz hnl hcl hC hCok hlp hrun hat
    by_cases hall : ∀ i, i < k → listed.getD i false = true
    · exact hend _ C listed σ O a w hc hsz hnl hall hC hrun hat
    refine ⟨fun hr => absurd (fun i hi => ready_nil hsz hback hr i (by omega)) hall, fun j hj => ?_⟩
    obtain ⟨hun, o, ho, hed⟩ := mem_ready.1 hj
    have hjn : j < ops.size := (Array.getElem?_eq_some_iff.1 ho).1
    have hoe : ops.toList.getD j default = o := by simp [ho]
    have hed' : ∀ i, edge o i = true → listed.getD i false = true := fun i hi => by
      obtain ⟨e, he, hb, hon⟩ := edge_iff.1 hi
      rw [← hon]; exact hed e he hb
    have hunf : listed.getD j false = false := by rw [← getD_tf (by omega)]; exact hun
    have hclL : ∀ q, q < ops.toList.length → listed.getD q false = true → ∀ p ∈ edgesOf (ops.toList.getD q default), listed.getD p false = true := fun q hq hLq p hp => by
      have hq' : q < ops.size := by simpa using hq
      exact hcl q ops[q] (by simp [hq']) hLq p (by have := mem_edgesOf.1 hp; simpa [hq'] using this)
    have hpre : ∀ p ∈ (preds ops.toList).getD j [], listed.getD p false = true := preds_mem (L := fun q => listed.getD q false = true) hclL (by simpa using hjn) fun p hp => by
      rw [hoe] at hp; exact hed' p (mem_edgesOf.1 hp)
    have hjk : j < k := by
      rcases Nat.lt_or_ge j k with h | h
      · exact h
      · exfalso
        simp only [tailOk, List.all_eq_true, List.mem_range, preds_len, Array.length_toList, Bool.or_eq_true, decide_eq_true_eq] at htail
        rcases htail j hjn with h2 | h2
        · omega
        · exact hall fun i hi => hpre i (by simpa using h2 i (by omega))
    have hjr : j < ros.length := by omega
    have hro : roOf P ann ops o = some (ros.getD j default) := by
      have := hget j hjn hjr
      have e : ops.toList[j]'(by simpa using hjn) = o := by
        have := Array.getElem?_eq_some_iff.1 ho
        simpa using this.2
      rw [e] at this
      rw [this]; simp [hjr]
    have hNo : ∀ d, o.dst = some d → d < N := hN o (by rw [← Array.mem_def]; exact Array.mem_of_getElem? ho)
    have hcs := count_set hun
    have hsz' : (listed.setIfInBounds j true).size = ops.size := by simpa using hsz
    have hnl' : ∀ i, i < ops.size → k ≤ i → (listed.setIfInBounds j true).getD i false = false := fun i hi hki => by
      rw [getD_set_ne false (fun h => by omega)]; exact hnl i hi hki
    have hjt : (listed.setIfInBounds j true).getD j false = true := by
      have : j < listed.size := by omega
      simp [this]
    have hmono : ∀ i, listed.getD i false = true → (listed.setIfInBounds j true).getD i false = true := fun i hi => by
      by_cases h : j = i
      · subst h; exact hjt
      · rw [getD_set_ne false h]; exact hi
    have hback' : ∀ i, (listed.setIfInBounds j true).getD i false = false → i ≠ j ∧ listed.getD i false = false := fun i hi => by
      by_cases h : j = i
      · subst h; rw [hjt] at hi; cases hi
      · rw [getD_set_ne false h] at hi; exact ⟨fun e => h e.symm, hi⟩
    have hcl' : ∀ q o', ops[q]? = some o' → (listed.setIfInBounds j true).getD q false = true → ∀ i, edge o' i = true → (listed.setIfInBounds j true).getD i false = true := fun q o' hq hLq i hi => by
      by_cases h : j = q
      · subst h
        rw [ho] at hq; injection hq with hq; subst hq
        exact hmono i (hed' i hi)
      · rw [getD_set_ne false h] at hLq
        exact hmono i (hcl q o' hq hLq i hi)
    -- what it looks at has been done
    have hlook : ∀ t ∈ (ros.getD j default).looks, unl ros k listed t = false := fun t ht => by
      rw [← Bool.not_eq_true, unl_iff]
      rintro ⟨i, h1, h2, h3, h4⟩
      have := (hlt' i j h1 h2 hjk).1 (by rw [h4]; exact ht)
      rw [hpre i this] at h3; cases h3
    unfold wpOp
    simp only [ho]
    obtain ⟨hg, hop, hdst, hdb⟩ := roOf_inv hro
    obtain ⟨S, β, g1, g2, g3, g4, g5⟩ := id hat
    rcases hkind' j hjk with hk | hk
    · -- light
      obtain ⟨d, op, he, hst⟩ := hlp j hjk hk hunf
      have hst' : stepA Γ (ros.getD j default) (hideE (unl ros k listed) σ) O = some (put (some d) (σ d) (hideE (unl ros k listed) σ), O) := by
        have hl := hlook
        rw [he] at hl
        simp only [stepA, he]
        rw [stepD_congr (σ := hideE (unl ros k listed) σ) (σ' := σ) fun t ht => hideE_off (hl t (by simp [RO.looks, ht])), hst]
      have hgn : (ros.getD j default).guard = none := by rw [he]
      have hw : wantA (ros.getD j default).guard (hideE (unl ros k listed) σ) = some true := by rw [hgn]; rfl
      rw [want_rel g3 hg hw]
      simp only [if_true]
      refine .inl (simO hΓ hat hro hNo hst' fun a' w' hat' => ih C _ σ O a' w' (by omega) hsz' hnl' hcl' ?_ hCok (fun i hi hli hun' => hlp i hi hli (hback' i hun').2) hrun ?_)
      · obtain ⟨D, h1, h2, h3⟩ := hC
        refine ⟨D, h1, fun c hcm => hmono c (h2 c hcm), fun c hcm => ?_⟩
        have hcj : j ≠ c := fun e => by
          have : c ∈ chIx ros k := by rw [h1]; exact List.mem_append_right _ hcm
          simp only [chIx, List.mem_filter] at this
          exact hexcl _ (e ▸ hk) this.2
        rw [getD_set_ne false hcj]; exact h3 c hcm
      · have e : put (some d) (σ d) (hideE (unl ros k listed) σ) = hideE (unl ros k (listed.setIfInBounds j true)) σ := by
          funext i
          have hdd : dstN (ros.getD j default) = d := by rw [he]; rfl
          by_cases hi : i = d
          · subst hi
            rw [hideE_off]
            · simp [put]
            · rw [← Bool.not_eq_true, unl_iff]
              rintro ⟨q, q1, q2, q3, q4⟩
              obtain ⟨q5, _⟩ := hback' q q3
              exact (hlt' j q hjk hk q1).2 q5 (by rw [q4, hdd])
          · have e1 : put (some d) (σ d) (hideE (unl ros k listed) σ) i = hideE (unl ros k listed) σ i := by simp [put, hi]
            rw [e1]
            have e2 : unl ros k (listed.setIfInBounds j true) i = unl ros k listed i := by
              rw [Bool.eq_iff_iff, unl_iff, unl_iff]
              constructor
              · rintro ⟨q, q1, q2, q3, q4⟩; exact ⟨q, q1, q2, (hback' q q3).2, q4⟩
              · rintro ⟨q, q1, q2, q3, q4⟩
                refine ⟨q, q1, q2, ?_, q4⟩
                have : j ≠ q := fun e => by subst e; rw [hdd] at q4; exact hi q4.symm
                rw [getD_set_ne false this]; exact q3
            simp only [hideE, e2]
        rw [← e]; exact hat'
    · -- of the chain
      obtain ⟨D, h1, h2, h3⟩ := hC
      have hjc : j ∈ chIx ros k := by simp only [chIx, List.mem_filter, List.mem_range]; exact ⟨hjk, hk⟩
      have hjC : j ∈ C := by
        rw [h1] at hjc
        rcases List.mem_append.1 hjc with h | h
        · rw [h2 j h] at hunf; cases hunf
        · exact h
      cases C with
      | nil => simp at hjC
      | cons c C =>
        have hcj : c = j := by
          rcases List.mem_cons.1 hjC with h | h
          · exact h.symm
          · exfalso
            simp only [chOk, Bool.and_eq_true, List.all_eq_true, List.contains_iff_mem] at hCok
            have := hpre c (hCok.1 j h)
            rw [h3 c (by simp)] at this; cases this
        subst hcj
        simp only [List.map_cons, runC] at hrun
        obtain ⟨s, hs, hchk, hrun⟩ := hrun
        obtain ⟨d, op, he, hop3⟩ := isCh_out hk
        have hUd : unl ros k listed d = false := by
          rw [← Bool.not_eq_true, unl_iff]
          rintro ⟨q, q1, q2, q3, q4⟩
          have hqj : c ≠ q := fun e => by subst e; exact hexcl _ q2 hk
          exact (hlt' q c q1 q2 hjk).2 hqj (by rw [q4, he]; rfl)
        have hst' : stepA Γ (ros.getD c default) (hideE (unl ros k listed) σ) O = some (hideE (unl ros k listed) s.1, s.2) := by
          have hl := hlook
          rw [he] at hl hs ⊢
          simp only [stepA] at hs ⊢
          cases hw : stepW Γ (some d) σ O op with
          | none => simp [hw] at hs
          | some q =>
            obtain ⟨v, σ1, O1⟩ := q
            simp only [hw, Option.some.injEq] at hs
            subst hs
            rw [stepW_hide hop3 (fun t ht => hl t (by simp [RO.looks, ht])) hw]
            simp only [hideE_put hUd]
        have hgn : (ros.getD c default).guard = none := by rw [he]
        have hw : wantA (ros.getD c default).guard (hideE (unl ros k listed) σ) = some true := by rw [hgn]; rfl
        rw [want_rel g3 hg hw]
        simp only [if_true]
        have hunlE : unl ros k (listed.setIfInBounds c true) = unl ros k listed := by
          funext i
          rw [Bool.eq_iff_iff, unl_iff, unl_iff]
          constructor
          · rintro ⟨q, q1, q2, q3, q4⟩; exact ⟨q, q1, q2, (hback' q q3).2, q4⟩
          · rintro ⟨q, q1, q2, q3, q4⟩
            have hqj : c ≠ q := fun e => by subst e; exact hexcl _ q2 hk
            exact ⟨q, q1, q2, by rw [getD_set_ne false hqj]; exact q3, q4⟩
        simp only [chOk, Bool.and_eq_true, List.all_eq_true, List.contains_iff_mem] at hCok
        refine .inl (simO hΓ hat hro hNo hst' fun a' w' hat' => ih C _ s.1 s.2 a' w' (by omega) hsz' hnl' hcl' ⟨D ++ [c], by rw [h1]; simp, fun q hq => ?_, fun q hq => ?_⟩ hCok.2 (fun i hi hli hun' => ?_) hrun (by rw [hunlE]; exact hat'))
        · rcases List.mem_append.1 hq with h | h
          · exact hmono q (h2 q h)
          · rw [List.mem_singleton.1 h]; exact hjt
        · have hqc : c ≠ q := fun e => by
            subst e
            have := hCok.1 c hq
            have hb := hpre c this
            rw [hunf] at hb; cases hb
          rw [getD_set_ne false hqc]; exact h3 q (by simp [hq])
        · obtain ⟨_, hui⟩ := hback' i hun'
          refine chkL_mem hchk _ (List.mem_map.2 ⟨i, List.mem_filter.2 ⟨?_, ?_⟩, rfl⟩)
          · simp only [ltIx, List.mem_filter, List.mem_range]; exact ⟨hi, hli⟩
          · rw [Bool.not_eq_true', ← Bool.not_eq_true, List.contains_iff_mem]
            intro hm
            rw [hpre i hm] at hui; cases hui

/-- The light ones done ahead give what they give. -/
theorem chkL_all {l : List RO} {σ : Env} {O : Objs} (h : chkL Γ l σ O) : ∀ r ∈ l, ∃ d op, r = ⟨some d, none, .d op⟩ ∧ stepD Γ O (ev σ) op = some (σ d) := chkL_mem h
end
end Go.Proofs.YtpobnchalcokoaaDoor.Pam
