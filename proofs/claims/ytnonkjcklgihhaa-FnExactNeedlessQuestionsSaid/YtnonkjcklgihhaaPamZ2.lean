/- A part of the proof that stands in this folder: a small machine whose steps are shown to be the steps of the model, or walks of functions by it. No condition of its own. -/
import Derived.Test.YtnonkjcklgihhaaPamT4
set_option linter.unusedVariables false
set_option linter.unusedSimpArgs false
namespace Go.Proofs.Ytnonkjcklgihhaa.Pam
open Go
/-! regions with a chain: equations to rewrite by -/
section
variable {Γ : Gam} {ks os : List Nat} {σ : Env} {O : Objs} {K : Env → Objs → Prop} {Q : Out → Env → Objs → Prop}
theorem aw_creg {li : List RO} {ch : List (RO × List RO)} {t : List RO} : aw Γ ks os (.creg li ch t) Q σ O = runOps Γ li σ O fun σ O => chkL Γ li σ O ∧ runC Γ ch σ O fun σ O => runOps Γ t σ O fun σ'' O'' => @nrm (keepE ks σ'') (keepO os O'') ⟨Q .norm⟩ := rfl
theorem runc_nil : runC Γ [] σ O K = K σ O := rfl
theorem runc_w {d : Nat} {op : WOp} {pe : List RO} {r : List (RO × List RO)} : runC Γ ((⟨some d, none, .w op⟩, pe) :: r) σ O K = @bindW (stepW Γ (some d) σ O op) ⟨fun v σ' O' => chkL Γ pe (put (some d) v σ') O' ∧ runC Γ r (put (some d) v σ') O' K⟩ := by
  simp only [runC, stepA, bindW]
  cases h : stepW Γ (some d) σ O op with
  | none => simp
  | some p => obtain ⟨v, σ', O'⟩ := p; simp
theorem chk_no : chkL Γ [] σ O = True := rfl
theorem chk_d {d : Nat} {op : DOp} {r : List RO} : chkL Γ (⟨some d, none, .d op⟩ :: r) σ O = (stepD Γ O (ev σ) op = some (σ d) ∧ chkL Γ r σ O) := rfl
end
end Go.Proofs.Ytnonkjcklgihhaa.Pam
