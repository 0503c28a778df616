/- A part of the proof that stands in this folder: a small machine whose steps are shown to be the steps of the model, or walks of functions by it. No condition of its own. -/
import Derived.Test.YtpobnchalcokoaaDoorPamN4
set_option linter.unusedVariables false
set_option linter.unusedSimpArgs false
namespace Go.Proofs.YtpobnchalcokoaaDoor.Pam
open Go

/-- Nothing leads to 'n', and nothing is there. -/
def NoRef (n : Nat) (σ : Env) (O : Objs) : Prop := (∀ i, n ∉ (σ i).refs) ∧ (∀ m cs, O m = some (.box cs) → n ∉ SV.refsL cs) ∧ O n = none

mutual
theorem refs_fz_sub {n : Nat} {q : Option Ob} : ∀ (v : SV) (k : Nat), k ∈ (v.tr (fz n q)).refs → k ∈ v.refs
  | .p v, k, h => by simp [SV.tr, SV.refs] at h
  | .ag cs, k, h => by simp only [SV.tr, SV.refs] at h ⊢; exact refsL_fz_sub cs k h
  | .tp cs, k, h => by simp only [SV.tr, SV.refs] at h ⊢; exact refsL_fz_sub cs k h
  | .cl f a c, k, h => by
    simp only [SV.tr, SV.refs, List.mem_append] at h ⊢
    exact h.imp (refsL_fz_sub a k) (refsL_fz_sub c k)
  | .un, k, h => by simp [SV.tr, SV.refs] at h
  | .junk, k, h => by simp [SV.tr, SV.refs] at h
  | .bx m off, k, h => by
    simp only [SV.tr, fz] at h
    split at h
    · split at h
      · split at h <;> simp [SV.refs] at h
      · simp [SV.refs] at h
    · exact h
  | .el m i j, k, h => by
    simp only [SV.tr, fz] at h
    split at h
    · simp [SV.refs] at h
    · exact h
  | .ar m, k, h => by
    simp only [SV.tr, fz] at h
    split at h
    · split at h <;> simp [SV.refs] at h
    · exact h
  | .sub m lo hi, k, h => by
    simp only [SV.tr, fz] at h
    split at h
    · split at h <;> simp [SV.refs] at h
    · exact h
  | .mp m, k, h => by
    simp only [SV.tr, fz] at h
    split at h
    · split at h <;> simp [SV.refs] at h
    · exact h
theorem refsL_fz_sub {n : Nat} {q : Option Ob} : ∀ (cs : List SV) (k : Nat), k ∈ SV.refsL (SV.trL (fz n q) cs) → k ∈ SV.refsL cs
  | [], k, h => by simp [SV.trL, SV.refsL] at h
  | c :: cs, k, h => by
    simp only [SV.trL, SV.refsL, List.mem_append] at h ⊢
    exact h.imp (refs_fz_sub c k) (refsL_fz_sub cs k)
end

theorem NoRef.freeze {n k : Nat} {q : Option Ob} {σ : Env} {O : Objs} (h : NoRef k σ O) : NoRef k (freezeE n q σ) (freezeO n q O) := by
  refine ⟨fun i hi => h.1 i (refs_fz_sub _ _ hi), fun m cs hm hk => ?_, ?_⟩
  · rcases freezeO_cases n q O m with ⟨_, e⟩ | ⟨_, ⟨_, e⟩ | ⟨ob, h2, e⟩⟩
    · rw [e] at hm; cases hm
    · rw [e] at hm; cases hm
    · rw [e] at hm; injection hm with hm
      cases ob with
      | box cs' => simp only [Ob.tr, Ob.box.injEq] at hm; subst hm; exact h.2.1 m cs' h2 (refsL_fz_sub _ _ hk)
      | arr _ _ => simp [Ob.tr] at hm
      | map _ => simp [Ob.tr] at hm
  · rcases freezeO_cases n q O k with ⟨_, e⟩ | ⟨_, ⟨_, e⟩ | ⟨ob, h2, _⟩⟩
    · exact e
    · exact e
    · rw [h.2.2] at h2; cases h2
theorem NoRef.frozen (n : Nat) (q : Option Ob) (σ : Env) (O : Objs) : NoRef n (freezeE n q σ) (freezeO n q O) :=
  ⟨fun i => refs_fz n q (σ i), fun m cs h => freezeO_no n q O m cs h, by simp [freezeO]⟩
theorem NoRef.freezeAll {k : Nat} : ∀ (ns : List Nat) {σ : Env} {O : Objs}, NoRef k σ O → NoRef k (freezeAll ns (σ, O)).1 (freezeAll ns (σ, O)).2
  | [], _, _, h => h
  | n :: ns, σ, O, h => NoRef.freezeAll ns h.freeze
theorem freezeAll_no : ∀ (ns : List Nat) (σ : Env) (O : Objs), ∀ n ∈ ns, NoRef n (freezeAll ns (σ, O)).1 (freezeAll ns (σ, O)).2
  | [], _, _, n, h => by simp at h
  | m :: ns, σ, O, n, h => by
    rcases List.mem_cons.1 h with e | h
    · subst e; exact NoRef.freezeAll ns (NoRef.frozen n (O n) σ O)
    · exact freezeAll_no ns _ _ n h

section
variable {P : Program} {w w' w1 : World} {S S' S2 : Nat → Prop} {β β' : Nat → Nat} {O O' : Objs} {σ σ' : Env} {a : Act} {o : Oper} {v : SV} {ann : Nat → Option Ann} {Γ : Gam} {tmps : Array Value} {K : Act → World → Prop} {Q : Exit → Act → World → Prop}

theorem callC_up {d own : Nat} {le : List Nat} {fv : SV} {args : List SV} {upd new : List (Nat × Ob)} (h : callC Γ O d own le fv args = some (v, upd, new)) : ∀ n ∈ upd.map (·.1), n ∈ le := by
  unfold callC at h
  split at h
  · split at h
    · split at h
      · split at h
        · injection h with h; injection h with e1 e2; injection e2 with e2 e3
          intro n hn
          rw [← e2] at hn
          obtain ⟨p, hp, e⟩ := List.mem_map.1 hn
          subst e
          exact (List.of_mem_zip hp).1
        · cases h
      · cases h
    · cases h
  · cases h

theorem sim_callL (hΓ : GS P Γ) (hr : Rel w S β O) (hs : Slots w S β O σ a.tmps) {c : Call} {f : Operand} {f' : Od} {args : List Od} {lend : List Nat} {own : Nat} {fzs : Bool} (ho : o.op = .call c) (hc : c.callee = .value f) (hf : odOf f = some f') (hargs : odsOf c.args.toList = some args)
    (hnd : lend.Nodup) (hll : lend.length ≤ 1000) (hown : own ≤ 15) (hdb : ∀ d, o.dst = some d → d < 50000) (hd : stepW Γ o.dst σ O (.callL f' args lend own fzs) = some (v, σ', O')) (hK : WK w S β O O' σ' a o v K) : o.wp P a w K Q := by
  have hd0 : o.dst.getD 0 < 50000 := by
    cases h : o.dst with
    | none => simp
    | some d => simpa using hdb d h
  simp only [stepW] at hd
  rw [if_pos (show own < 100 by omega)] at hd
  generalize o.dst.getD 0 = d0 at hd hd0
  obtain ⟨S1, a1, a2, a3, hr1, hs1⟩ := freezeAll_rel (nms d0 own) hr hs
  have hno := freezeAll_no (nms d0 own) σ O
  generalize freezeAll (nms d0 own) (σ, O) = s1 at hd hr1 hs1 a3 hno
  obtain ⟨σ1, O1⟩ := s1
  simp only at hd hr1 hs1 a3 hno
  generalize hle0 : (lend.filter fun n => (O1 n).isSome) = le at hd
  have hle1 : ∀ n ∈ le, O1 n ≠ none := fun n hn => by
    rw [← hle0] at hn
    have := (List.mem_filter.1 hn).2
    intro e; simp [e] at this
  have hnd' : le.Nodup := by rw [← hle0]; exact hnd.filter _
  have hll' : le.length ≤ 1000 := by rw [← hle0]; exact Nat.le_trans (List.length_filter_le _ _) hll
  have key : ∃ S2 σ2 O2, (∀ b, S1 b → S2 b) ∧ (∀ b, S2 b → S1 b ∨ ∃ n, O1 n ≠ none ∧ β n = b) ∧ (∀ n, O2 n ≠ none → O1 n ≠ none) ∧ Rel w S2 β O2 ∧ Slots w S2 β O2 σ2 a.tmps ∧ (∀ n ∈ nms d0 own, NoRef n σ2 O2) ∧ (∀ n ∈ le, O2 n ≠ none) ∧
      (match callC Γ O2 d0 own le (ev σ2 f') (args.map (ev σ2)) with | some (v, upd, new) => some (v, σ2, setL new (setL upd O2)) | none => none) = some (v, σ', O') := by
    cases fzs with
    | false =>
      simp only [Bool.false_eq_true, if_false] at hd
      exact ⟨S1, σ1, O1, fun _ h => h, fun _ h => .inl h, fun _ h => h, hr1, hs1, hno, hle1, hd⟩
    | true =>
      simp only [if_true] at hd
      generalize hfl : ((SV.refsL (args.map (ev σ1))).filter fun n => !le.contains n) = fl at hd
      obtain ⟨S2, b1, b2, b3, hr2, hs2⟩ := freezeAll_rel fl hr1 hs1
      have hno2 : ∀ n ∈ nms d0 own, NoRef n (freezeAll fl (σ1, O1)).1 (freezeAll fl (σ1, O1)).2 := fun n hn => NoRef.freezeAll fl (hno n hn)
      refine ⟨S2, _, _, b1, b2, b3, hr2, hs2, hno2, fun n hn => ?_, hd⟩
      have hnf : n ∉ fl := by rw [← hfl]; simp [hn]
      have : ∀ (fl : List Nat) (σ : Env) (O : Objs), n ∉ fl → O n ≠ none → (freezeAll fl (σ, O)).2 n ≠ none := by
        intro fl
        induction fl with
        | nil => intro σ O _ h; exact h
        | cons m r ih =>
          intro σ O h1 h2
          simp only [List.mem_cons, not_or] at h1
          refine ih _ _ h1.2 ?_
          rcases freezeO_cases m (O m) O n with ⟨e, _⟩ | ⟨_, ⟨e, _⟩ | ⟨ob, _, e⟩⟩
          · exact absurd e h1.1
          · exact absurd e h2
          · rw [e]; simp
      exact this fl _ _ hnf (hle1 n hn)
  obtain ⟨S2, σ2, O2, b1, b2, b3, hr2, hs2, hno2, hle2, hd2⟩ := key
  clear hd
  split at hd2
  · rename_i v' upd new hcc
    injection hd2 with hd2; injection hd2 with e1 e2; injection e2 with e2 e3
    subst e1; subst e2; subst e3
    obtain ⟨h5, h6⟩ := args_rel hs2 hargs
    obtain ⟨g, va, vc, hfv, hcl, hnew, hcalls⟩ := call_core hΓ hr2 (od_rel hs2 hf) h5 h6 hd0 hown hle2 hnd' hll' (fun n hn => (hno2 n hn).2.2) (fun m cs hm n hn => (hno2 n hn).2.1 m cs hm) hcc
    unfold Oper.wp
    rw [run_call ho hc hfv hcl, Oper.upon_enter]
    refine hcalls.mono fun e w' ⟨x, he, S', β', c1, c2, c3, c4, c5, c6, c7, c8⟩ => ?_
    subst he
    have hst : Step w w' S2 S' β β' O2 (setL new (setL upd O2)) := by
      refine ⟨c1.mono fun b _ ⟨n, hn, e⟩ => ⟨n, hle2 n hn, e⟩, c2, fun b hb => (c3 b hb).imp id .inr, fun i => c4 _ fun h => ?_, fun n hn hlt => ?_⟩
      · obtain ⟨j, hj, e⟩ := mem_nms.1 (hnew _ h)
        have := NM_lt hd0 (show j < 15 by omega)
        simp only [X] at e; omega
      · by_cases h : n ∈ new.map (·.1)
        · have := c5 n h; omega
        · refine ⟨n, ?_, c4 n h⟩
          rw [setL_miss h] at hn
          by_cases hu : n ∈ upd.map (·.1)
          · exact hle2 n (callC_up hcc n hu)
          · rw [setL_miss hu] at hn; exact hn
    have hst0 : Step w w S S2 β β O O2 := ⟨Fr.refl _ _, fun b hb => b1 b (a1 b hb), fun b hb => by
      rcases b2 b hb with h | ⟨n, hn, e⟩
      · exact (a2 b h).imp id .inl
      · exact .inr (.inl ⟨n, a3 n hn, e⟩), fun _ => rfl, fun n hn _ => ⟨n, a3 n (b3 n hn), rfl⟩⟩
    exact hK x w' S' β' (hst0.trans hr2 hst) c6 (fun i => c7 _ _ (hs2 i) fun n hn h => (hno2 n (hnew n h)).1 i hn) c8
  · cases hd2
end
end Go.Proofs.YtpobnchalcokoaaDoor.Pam
