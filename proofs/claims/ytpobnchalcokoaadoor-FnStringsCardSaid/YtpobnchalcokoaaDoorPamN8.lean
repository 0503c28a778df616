/- A part of the proof that stands in this folder: a small machine whose steps are shown to be the steps of the model, or walks of functions by it. No condition of its own. -/
import Derived.Test.YtpobnchalcokoaaDoorPamN7
set_option linter.unusedVariables false
set_option linter.unusedSimpArgs false
namespace Go.Proofs.YtpobnchalcokoaaDoor.Pam
open Go

section
variable {P : Program} {w w' w1 : World} {S S' S2 : Nat → Prop} {β β' : Nat → Nat} {O O' : Objs} {σ σ' : Env} {a : Act} {o : Oper} {v : SV} {ann : Nat → Option Ann} {Γ : Gam} {tmps : Array Value} {K : Act → World → Prop} {Q : Exit → Act → World → Prop}

theorem sim_callG (hΓ : GS P Γ) (hr : Rel w S β O) (hs : Slots w S β O σ a.tmps) {c : Call} {f : Operand} {f' : Od} {args : List Od} {lend : List Nat} {own : Nat} {fzs : Bool} (ho : o.op = .call c) (hc : c.callee = .value f) (hf : odOf f = some f') (hargs : odsOf c.args.toList = some args)
    (hnd : lend.Nodup) (hll : lend.length ≤ 1000) (hown : 100 ≤ own ∧ own ≤ 115) (hdb : ∀ d, o.dst = some d → d < 50000) (hd : stepW Γ o.dst σ O (.callL f' args lend own fzs) = some (v, σ', O')) (hK : WK w S β O O' σ' a o v K) : o.wp P a w K Q := by
  have hd0 : o.dst.getD 0 < 50000 := by
    cases h : o.dst with
    | none => simp
    | some d => simpa using hdb d h
  simp only [stepW] at hd
  rw [if_neg (show ¬ own < 100 by omega)] at hd
  generalize o.dst.getD 0 = d0 at hd hd0
  generalize hle0 : (lend.filter fun n => (O n).isSome) = le at hd
  have hle1 : ∀ n ∈ le, O n ≠ none := fun n hn => by
    rw [← hle0] at hn
    have := (List.mem_filter.1 hn).2
    intro e; simp [e] at this
  have hnd' : le.Nodup := by rw [← hle0]; exact hnd.filter _
  have hll' : le.length ≤ 1000 := by rw [← hle0]; exact Nat.le_trans (List.length_filter_le _ _) hll
  have key : ∃ S2 σ2 O2, (∀ b, S b → S2 b) ∧ (∀ b, S2 b → S b ∨ ∃ n, O n ≠ none ∧ β n = b) ∧ (∀ n, O2 n ≠ none → O n ≠ none) ∧ Rel w S2 β O2 ∧ Slots w S2 β O2 σ2 a.tmps ∧ (∀ n ∈ le, O2 n ≠ none) ∧
      (match callG Γ O2 d0 (own - 100) le (ev σ2 f') (args.map (ev σ2)) with | some (v, upd, gn, new) => if ((nms d0 (own - 100)).all fun n => !le.contains n || gn.contains n) = true then some (v, killE (gn ++ nms d0 (own - 100)) σ2, setL new (setL upd (killO (gn ++ nms d0 (own - 100)) O2))) else none | none => none) = some (v, σ', O') := by
    cases fzs with
    | false =>
      simp only [Bool.false_eq_true, if_false] at hd
      exact ⟨S, σ, O, fun _ h => h, fun _ h => .inl h, fun _ h => h, hr, hs, hle1, hd⟩
    | true =>
      simp only [if_true] at hd
      generalize hfl : ((SV.refsL (args.map (ev σ))).filter fun n => !le.contains n) = fl at hd
      obtain ⟨S2, b1, b2, b3, hr2, hs2⟩ := freezeAll_rel fl hr hs
      refine ⟨S2, _, _, b1, b2, b3, hr2, hs2, fun n hn => ?_, hd⟩
      have hnf : n ∉ fl := by rw [← hfl]; simp [hn]
      have : ∀ (fl : List Nat) (σ : Env) (O : Objs), n ∉ fl → O n ≠ none → (freezeAll fl (σ, O)).2 n ≠ none := by
        intro fl
        induction fl with
        | nil => intro σ O _ h; exact h
        | cons m r ih =>
          intro σ O h1 h2
          simp only [List.mem_cons, not_or] at h1
          refine ih _ _ h1.2 ?_
          rcases freezeO_cases m (O m) O n with ⟨e, _⟩ | ⟨_, ⟨e, _⟩ | ⟨ob, _, e⟩⟩
          · exact absurd e h1.1
          · exact absurd e h2
          · rw [e]; simp
      exact this fl _ _ hnf (hle1 n hn)
  obtain ⟨S2, σ2, O2, b1, b2, b3, hr2, hs2, hle2, hd2⟩ := key
  clear hd
  split at hd2
  · rename_i v' upd gn new hcc
    split at hd2
    · rename_i hchk
      injection hd2 with hd2; injection hd2 with e1 e2; injection e2 with e2 e3
      subst e1; subst e2; subst e3
      have hgn : ∀ n ∈ nms d0 (own - 100), n ∈ le → n ∈ gn := fun n hn hl => by
        have := List.all_eq_true.1 hchk n hn
        simp only [Bool.or_eq_true, Bool.not_eq_true', List.contains_eq_mem, decide_eq_true_eq, decide_eq_false_iff_not] at this
        rcases this with h | h
        · exact absurd hl h
        · exact h
      obtain ⟨h5, h6⟩ := args_rel hs2 hargs
      obtain ⟨g, va, vc, hfv, hcl, hcalls⟩ := call_coreG hΓ hr2 (od_rel hs2 hf) h5 h6 hd0 (by omega) hle2 hnd' hll' hgn hcc
      unfold Oper.wp
      rw [run_call ho hc hfv hcl, Oper.upon_enter]
      refine hcalls.mono fun e w' ⟨x, he, S', β', hst, hrel, hlift, hv⟩ => ?_
      subst he
      have hst0 : Step w w S S2 β β O O2 := ⟨Fr.refl _ _, fun b hb => b1 b hb, fun b hb => by
        rcases b2 b hb with h | ⟨n, hn, e⟩
        · exact .inl h
        · exact .inr (.inl ⟨n, hn, e⟩), fun _ => rfl, fun n hn _ => ⟨n, b3 n hn, rfl⟩⟩
      exact hK x w' S' β' (hst0.trans hr2 hst) hrel (fun i => hlift _ _ (hs2 i)) hv
    · cases hd2
  · cases hd2
end
end Go.Proofs.YtpobnchalcokoaaDoor.Pam
