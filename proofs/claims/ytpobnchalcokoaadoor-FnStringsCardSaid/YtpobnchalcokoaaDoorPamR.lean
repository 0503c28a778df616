/- A part of the proof that stands in this folder: a small machine whose steps are shown to be the steps of the model, or walks of functions by it. No condition of its own. -/
import Derived.Test.YtpobnchalcokoaaDoorPamQ2
set_option linter.unusedVariables false
set_option linter.unusedSimpArgs false
namespace Go.Proofs.YtpobnchalcokoaaDoor.Pam
open Go

/-- The places that a code writes lie within the frame. -/
def dstOk (N : Nat) (o : Oper) : Bool := match o.dst with | some d => decide (d < N) | none => true
def codeDst (N : Nat) : Code → Bool
  | .region _ ops _ => ops.toList.all (dstOk N)
  | .seq a b => codeDst N a && codeDst N b
  | .cond _ a b => codeDst N a && codeDst N b
  | .block _ b => codeDst N b
  | .loop b => codeDst N b
  | _ => true

theorem mkEnv_keep (ks : List Nat) (σ : Env) (i : Nat) : keepE ks σ i = σ i ∨ keepE ks σ i = .junk := by
  induction ks with
  | nil => exact .inr rfl
  | cons k r ih =>
    simp only [keepE, List.map_cons, mkEnv]
    split
    · rename_i h; rw [h]; exact .inl rfl
    · exact ih
theorem keepO_or : ∀ (os : List Nat) (O : Objs) (n : Nat), keepO os O n = O n ∨ keepO os O n = none
  | [], _, _ => .inr rfl
  | k :: r, O, n => by
    simp only [keepO]
    split
    · rename_i h; rw [h]; exact .inl rfl
    · exact keepO_or r O n

section
variable {P : Program} {w w' w0 : World} {S S' S0 : Nat → Prop} {β β' β0 : Nat → Nat} {O0 : Objs} {N : Nat} {O O' : Objs} {σ σ' : Env} {a : Act} {ann : Nat → Option Ann} {Γ : Gam} {Q : Exit → Act → World → Prop} {ks os : List Nat}

theorem At.freezeAll (h : At w0 S0 β0 O0 N σ O a w) (ns : List Nat) : At w0 S0 β0 O0 N (Pam.freezeAll ns (σ, O)).1 (Pam.freezeAll ns (σ, O)).2 a w := by
  obtain ⟨S, β, h1, h2, h3, h4, h5⟩ := h
  obtain ⟨S', g1, g2, g3, g4, g5⟩ := freezeAll_rel ns h2 h3
  exact ⟨S', β, h1.trans h2 ⟨Fr.refl _ _, g1, fun b hb => (g2 b hb).imp id .inl, fun _ => rfl, fun n hn _ => ⟨n, g3 n hn, rfl⟩⟩, g4, g5, h4, h5⟩

theorem At.keep (h : At w0 S0 β0 O0 N σ O a w) : At w0 S0 β0 O0 N (keepE ks σ) (keepO os O) a w := by
  obtain ⟨S, β, h1, h2, h3, h4, h5⟩ := h
  have hO := keepO_or os O
  have hst : Step w w S S β β O (keepO os O) := ⟨Fr.refl _ _, fun _ h => h, fun _ h => .inl h, fun _ => rfl, fun n hn _ => by
    rcases hO n with e | e
    · exact ⟨n, e ▸ hn, rfl⟩
    · exact absurd e hn⟩
  refine ⟨S, β, h1.trans h2 hst, h2.drop hO, fun i => ?_, h4, h5⟩
  rcases mkEnv_keep ks σ i with e | e
  · rw [e]; exact (h3 i).drop hO
  · rw [e]; exact .junk _

theorem At.drew (h : At w0 S0 β0 O0 N σ O a w) : At w0 S0 β0 O0 N σ O a { w with drawn := w.drawn + 1 } := by
  obtain ⟨S, β, h1, h2, h3, h4, h5⟩ := h
  have hg : Grow w { w with drawn := w.drawn + 1 } S S := ⟨Fr.of rfl rfl rfl (Nat.le_refl _) fun _ _ => rfl, fun _ h => h, fun _ h => .inl h⟩
  exact ⟨S, β, h1.trans h2 hg.step, h2.grow hg, fun i => (h3 i).grow h2 hg, h4, h5⟩

def Out.exit' : Out → Exit
  | .norm => .normal
  | .ret => .ret
  | .exit id => .exit id

theorem cutAt_le (ops : List (List Nat)) : ∀ m, cutAt ops m ≤ m
  | 0 => Nat.le_refl _
  | k + 1 => by simp only [cutAt]; split; exact Nat.le_succ_of_le (cutAt_le ops k); exact Nat.le_refl _

theorem cutAt_tail (ops : List (List Nat)) : ∀ m, tailOk ops m = true → tailOk ops (cutAt ops m) = true
  | 0, h => h
  | k + 1, h => by simp only [cutAt]; split; rename_i h1; exact cutAt_tail ops k h1; exact h

/-- WHAT THIS MACHINE DOES, THE MODEL'S DOES. -/
theorem runOps_lt {Γ : Gam} {K : Env → Objs → Prop} {O : Objs} : ∀ {l : List RO} {σ : Env}, (∀ r ∈ l, isLt r = true) → runOps Γ l σ O K → ∃ E, K E O ∧ ∀ i, (∀ r ∈ l, dstN r ≠ i) → E i = σ i
  | [], σ, _, h => ⟨σ, h, fun _ _ => rfl⟩
  | r :: l, σ, hl, h => by
    obtain ⟨d, op, rfl⟩ := isLt_out (hl r (by simp))
    simp only [runOps, wantA, stepA] at h
    obtain ⟨s, hs, h⟩ := h
    cases hd : stepD Γ O (ev σ) op with
    | none => simp [hd] at hs
    | some v =>
      simp only [hd, Option.some.injEq] at hs
      subst hs
      obtain ⟨E, h1, h2⟩ := runOps_lt (fun r hr => hl r (List.mem_cons_of_mem _ hr)) h
      refine ⟨E, h1, fun i hi => ?_⟩
      rw [h2 i fun r hr => hi r (List.mem_cons_of_mem _ hr)]
      have : i ≠ d := fun e => hi _ (List.mem_cons_self) (by rw [e]; rfl)
      simp [put, this]
theorem aw_sound (hΓ : GS P Γ) (hm : P.follows .mixedOrders = true) : ∀ (c : Code) {ac : AC} {Qa : Out → Env → Objs → Prop} {Q : Exit → Act → World → Prop} {σ : Env} {O : Objs} {a : Act} {w : World},
    codeOf P ann c = some ac → codeDst N c = true → aw Γ ks os ac Qa σ O → At w0 S0 β0 O0 N σ O a w → (∀ out σ O a w, Qa out σ O → At w0 S0 β0 O0 N σ O a w → Q out.exit' a w) → c.wp P Q a w := by
  intro c
  induction c with
  | skip => intro ac Qa Q σ O a w h1 _ h3 h4 hQ; simp [codeOf] at h1; subst h1; exact wp_skip (hQ _ _ _ _ _ h3 h4)
  | region id ops draw =>
    intro ac Qa Q σ O a w h1 h2 h3 h4 hQ
    have hN : ∀ o ∈ ops.toList, ∀ d, o.dst = some d → d < N := fun o ho d hd => by
      simp only [codeDst, List.all_eq_true] at h2
      have := h2 o ho
      simpa [dstOk, hd] using this
    cases draw with
    | false =>
      simp only [codeOf] at h1
      cases hros : rosOf P ann ops ops.toList with
      | none => simp [hros] at h1
      | some ros =>
        simp [hros] at h1; subst h1
        refine wp_region ?_
        have := sim_ops (Q := Q) (ops := ops) hΓ (Ka := fun σ' O' => Qa .norm (keepE ks σ') (keepO os O')) (fun σ O a w hk hat => hQ .norm _ _ _ _ hk hat.keep) ops.toList 0 (fun j hj => by simp at hj; simp [hj]) hros hN h3 h4
        rw [List.range_eq_range']
        simpa using this
    | true =>
      simp only [codeOf] at h1
      split at h1
      case h_2 =>
        simp only [cregOf] at h1
        split at h1
        case h_2 => cases h1
        rename_i ros hros
        split at h1
        case isFalse => cases h1
        rename_i hck
        injection h1 with h1; subst h1
        simp only [Bool.and_eq_true] at hck
        obtain ⟨⟨⟨⟨hkind, hback⟩, htail⟩, hch⟩, hlt⟩ := hck
        refine wp_region_any hm ?_
        simp only [aw] at h3
        generalize hk : cutAt (preds ops.toList) ops.toList.length = k at *
        have hkn : k ≤ ops.size := by rw [← hk]; simpa using cutAt_le (preds ops.toList) ops.toList.length
        obtain ⟨E, hE, hoff⟩ := runOps_lt (fun r hr => by
          obtain ⟨j, hj, rfl⟩ := List.mem_map.1 hr
          exact (List.mem_filter.1 hj).2) h3
        obtain ⟨hchk, hrun⟩ := hE
        refine any_chain (Q := Q) hΓ (Ka := fun σ' O' => Qa .norm (keepE ks σ') (keepO os O')) (fun σ O a w hk hat => hQ .norm _ _ _ _ hk hat.keep) hros hN hkn hback htail hkind hch hlt ops.size (chIx ros k) (Array.replicate ops.size false) E O a _ ?_ (by simp) (fun j hj _ => by simp [hj]) (fun j o ho hl => ?_) ⟨[], rfl, by simp, fun c hc => ?_⟩ hch (fun j hj hli _ => ?_) hrun ?_
        · exact Nat.le_trans Array.count_le_size (by simp)
        · have : j < ops.size := (Array.getElem?_eq_some_iff.1 ho).1
          simp [this] at hl
        · by_cases h : c < ops.size <;> simp [h]
        · exact chkL_mem hchk _ (List.mem_map.2 ⟨j, List.mem_filter.2 ⟨List.mem_range.2 hj, hli⟩, rfl⟩)
        · obtain ⟨S, β, g1, g2, g3, g4, g5⟩ := h4.drew
          refine ⟨S, β, g1, g2, fun i => ?_, g4, g5⟩
          unfold hideE
          split
          · exact .junk _
          · rename_i hu
            rw [hoff i fun r hr e => hu ?_]
            · exact g3 i
            · obtain ⟨j, hj, rfl⟩ := List.mem_map.1 hr
              simp only [ltIx, List.mem_filter, List.mem_range] at hj
              rw [unl_iff]
              refine ⟨j, hj.1, hj.2, ?_, e⟩
              by_cases h : j < ops.size <;> simp [h]
      case h_1 =>
        rename_i x hx
        injection h1 with h1; subst h1
        have h1 := hx
        simp only [dregOf] at h1
        split at h1
        · rename_i ros hros
          split at h1
          · rename_i hck
            injection h1 with h1; subst h1
            simp only [Bool.and_eq_true, decide_eq_true_eq] at hck
            obtain ⟨⟨⟨⟨hd, hback⟩, htail⟩, hbody⟩, hpn⟩ := hck
            refine wp_region_any hm ?_
            simp only [aw] at h3
            generalize hpe : List.flatMap madeBy (List.take (cutAt (preds ops.toList) ops.toList.length) ros) = pend at h3 hpn
            have h4' := h4.freezeAll pend
            have hno := freezeAll_no pend σ O
            generalize Pam.freezeAll pend (σ, O) = s at h3 h4' hno
            obtain ⟨σ1, O1⟩ := s
            simp only at h3 h4' hno
            have hk : cutAt (preds ops.toList) ops.toList.length ≤ ops.size := by simpa using cutAt_le (preds ops.toList) ops.toList.length
            rw [List.range_eq_range'] at h3
            obtain ⟨hcan, hfin⟩ := runB_canon (ex := fun j => exOf (preds ops.toList) ros (List.flatMap touch (List.take (cutAt (preds ops.toList) ops.toList.length) ros)).eraseDups (cutAt (preds ops.toList) ops.toList.length) j) (ro := fun j => ros.getD j default) (σ := σ1) (O := O1) (cutAt (preds ops.toList) ops.toList.length) 0 h3
            rw [Nat.zero_add] at hfin
            refine any_body (Q := Q) hΓ (Ka := fun σ' O' => Qa .norm (keepE ks σ') (keepO os O')) (fun σ O a w hk hat => hQ .norm _ _ _ _ hk hat.keep) hros hN hk hback htail hbody hd hpe hpn hno (all := (List.flatMap touch (List.take (cutAt (preds ops.toList) ops.toList.length) ros)).eraseDups) (fun i hi n hn => by
              have hil : i < ros.length := by have := (rosOf_get hros).1; simp at this; omega
              rw [List.mem_eraseDups, List.mem_flatMap]
              refine ⟨ros[i], List.mem_take_iff_getElem.2 ⟨i, by omega, rfl⟩, ?_⟩
              have e : ros.getD i default = ros[i] := by simp [hil]
              rw [← e]; exact hn) (fun _ => rfl) (fun j hj => hcan j (Nat.zero_le _) (by omega)) hfin rfl rfl ops.size _ _ _ ?_ (by simp) (fun j hj _ => by simp [hj]) (fun j o ho hl => ?_) ?_
            · exact Nat.le_trans Array.count_le_size (by simp)
            · have : j < ops.size := (Array.getElem?_eq_some_iff.1 ho).1
              simp [this] at hl
            · have e : ∀ m vs, envL ros vs (fun i => (Array.replicate ops.size false).getD i false) σ1 m = σ1 := by
                intro m vs
                induction m with
                | zero => rfl
                | succ m ih =>
                  simp only [envL]
                  rw [if_neg, ih]
                  by_cases h : m < ops.size <;> simp [h]
              have e2 : ∀ m ns, objL ns (fun i => (Array.replicate ops.size false).getD i false) O1 m = O1 := by
                intro m ns
                induction m with
                | zero => rfl
                | succ m ih =>
                  simp only [objL]
                  rw [if_neg, ih]
                  by_cases h : m < ops.size <;> simp [h]
              rw [e, e2]; exact h4'.drew
          · cases h1
        · cases h1
  | seq x y ihx ihy =>
    intro ac Qa Q σ O a w h1 h2 h3 h4 hQ
    simp only [codeOf] at h1
    split at h1
    · rename_i p q hp hq
      injection h1 with h1; subst h1
      simp only [codeDst, Bool.and_eq_true] at h2
      refine wp_seq (ihx hp h2.1 h3 h4 fun out σ O a w hk hat => ?_)
      cases out with
      | norm => exact ihy hq h2.2 hk hat hQ
      | ret => exact hQ .ret _ _ _ _ hk hat
      | exit id => exact hQ (.exit id) _ _ _ _ hk hat
    · cases h1
  | cond c x y ihx ihy =>
    intro ac Qa Q σ O a w h1 h2 h3 h4 hQ
    simp only [codeOf] at h1
    split at h1
    · rename_i c' p q hc hp hq
      injection h1 with h1; subst h1
      simp only [codeDst, Bool.and_eq_true] at h2
      obtain ⟨t, ht, h3⟩ := h3
      obtain ⟨S, β, g1, g2, g3, g4, g5⟩ := id h4
      have hr := od_rel g3 hc
      rw [ht] at hr
      have hb : a.eval c = .bool t := by
        have := hr.p_inv
        generalize a.eval c = x at this
        cases this; rfl
      refine wp_cond hb ?_
      cases t with
      | true => simp only [if_true] at h3 ⊢; exact ihx hp h2.1 h3 h4 hQ
      | false => simp only [Bool.false_eq_true, if_false] at h3 ⊢; exact ihy hq h2.2 h3 h4 hQ
    · cases h1
  | block id b ih =>
    intro ac Qa Q σ O a w h1 h2 h3 h4 hQ
    simp only [codeOf] at h1
    cases hb : codeOf P ann b with
    | none => simp [hb] at h1
    | some b' =>
      simp [hb] at h1; subst h1
      refine wp_block (ih hb h2 h3 h4 fun out σ O a w hk hat => ?_)
      cases out with
      | norm => exact hQ .norm _ _ _ _ hk hat
      | ret => exact hQ .ret _ _ _ _ hk hat
      | exit i =>
        simp only [Out.exit', Exit.inBlock]
        simp only at hk
        split at hk
        · rename_i h; rw [if_pos h]; exact hQ .norm _ _ _ _ hk hat
        · rename_i h; rw [if_neg h]; exact hQ (.exit i) _ _ _ _ hk hat
  | loop b ih =>
    intro ac Qa Q σ O a w h1 h2 h3 h4 hQ
    simp only [codeOf] at h1
    cases hb : codeOf P ann b with
    | none => simp [hb] at h1
    | some b' =>
      simp [hb] at h1; subst h1
      obtain ⟨n, h3⟩ := h3
      refine wp_loop_rounds n ?_
      induction n generalizing σ O a w with
      | zero => exact h3.elim
      | succ n ihn =>
        rw [rounds_succ]
        refine ih hb h2 h3 h4 fun out σ O a w hk hat => ?_
        cases out with
        | norm => exact ihn hat hk
        | ret => exact hQ .ret _ _ _ _ hk hat
        | exit id => exact hQ (.exit id) _ _ _ _ hk hat
  | exit id => intro ac Qa Q σ O a w h1 _ h3 h4 hQ; simp [codeOf] at h1; subst h1; exact wp_exit (hQ (.exit id) _ _ _ _ h3 h4)
  | ret => intro ac Qa Q σ O a w h1 _ h3 h4 hQ; simp [codeOf] at h1; subst h1; exact wp_ret (hQ .ret _ _ _ _ h3 h4)
  | _ => intro ac Qa Q σ O a w h1; simp [codeOf] at h1
end
end Go.Proofs.YtpobnchalcokoaaDoor.Pam
