/- A part of the proof that stands in this folder: a small machine whose steps are shown to be the steps of the model, or walks of functions by it. No condition of its own. -/
import Derived.Test.YtpobnchalcokoaaDoorPamT
set_option linter.unusedVariables false
set_option linter.unusedSimpArgs false
namespace Go.Proofs.YtpobnchalcokoaaDoor.Pam
open Go

/-- 'af' is what the program's function 'f' does. -/
structure Is (P : Program) (f : FuncId) (af : AFn) : Prop where
  ex : ∃ fn c ann, P.funcs[f]? = some fn ∧ fn.body = some c ∧ (fn.name == "runtime.NumGoroutine") = false ∧ fnOf P ann fn = some af ∧ codeDst fn.ntmps c = true ∧ af.np ≤ fn.ntmps

theorem Is.mk' {P : Program} {f : FuncId} {fn : Func} {af : AFn} (ann : Nat → Option Ann) (h1 : P.funcs[f]? = some fn) (h2 : (match fn.body with | some c => codeDst fn.ntmps c && !(fn.name == "runtime.NumGoroutine") && decide (af.np ≤ fn.ntmps) | none => false) = true) (h3 : fnOf P ann fn = some af) : Is P f af := by
  split at h2
  · rename_i c hb
    simp only [Bool.and_eq_true, Bool.not_eq_true', decide_eq_true_eq] at h2
    exact ⟨fn, c, ann, h1, hb, h2.1.2, h3, h2.1.1, h2.2⟩
  · cases h2

section
variable {P : Program} {Γ : Gam} {ks os : List Nat} {f : FuncId} {af : AFn}

/-- A FUNCTION THAT TAKES AND GIVES VALUES. -/
theorem Is.pc (h : Is P f af) (hm : P.follows .mixedOrders = true) (hΓ : GS P Γ) (ks os : List Nat) {args : List SV} {r : SV} {fs : List Ob} (ha : args.length ≤ af.np)
    (hrun : aw Γ ks os af.body (finA af.res [] r [] fs) (argE args) (resO [] [])) : PC P f args [] r [] fs := by
  obtain ⟨fn, c, ann, h1, h2, h3, h4, h5, h6⟩ := h.ex
  exact pc_of_aw h1 h2 h3 hm h4 h5 hΓ (by omega) (by simp) hrun

/-- A FUNCTION, with objects lent to it. -/
theorem Is.pcX (h : Is P f af) (hm : P.follows .mixedOrders = true) (hΓ : GS P Γ) (ks os : List Nat) {args : List SV} {r : SV} {ext ext' fs : List Ob} (ha : args.length ≤ af.np) (he : ext.length ≤ 1000)
    (hrun : aw Γ ks os af.body (finA af.res ext r ext' fs) (argE args) (resO ext [])) : PC P f args ext r ext' fs := by
  obtain ⟨fn, c, ann, h1, h2, h3, h4, h5, h6⟩ := h.ex
  exact pc_of_aw h1 h2 h3 hm h4 h5 hΓ (by omega) (by omega) hrun

abbrev Con := List SV → List Ob → Option (SV × List Ob × List Ob)
/-- What is told of a function holds. -/
def Says (P : Program) (f : FuncId) (c : Con) : Prop := ∀ args ext r ext' fs, c args ext = some (r, ext', fs) → PC P f args ext r ext' fs
def Gam.addX (Γ : Gam) (f : FuncId) (c : Con) : Gam := fun f' => if f' = f then c else Γ f'
theorem GS.addX (hΓ : GS P Γ) {c : Con} (h : Says P f c) : GS P (Γ.addX f c) := by
  intro f' args ext r ext' fs he
  unfold Gam.addX at he
  split at he
  · rename_i hf
    subst hf
    exact h _ _ _ _ _ he
  · exact hΓ _ _ _ _ _ _ he
/-- What is told, as far as a measure goes. -/
def lim (μ : List SV → List Ob → Nat) (k : Nat) (c : Con) : Con := fun args ext => if μ args ext < k then c args ext else none
/-- A FUNCTION THAT CALLS ITSELF. -/
theorem Says.rec (hΓ : GS P Γ) {c : Con} (μ : List SV → List Ob → Nat) (step : ∀ k, GS P (Γ.addX f (lim μ k c)) → ∀ args ext r ext' fs, c args ext = some (r, ext', fs) → μ args ext = k → PC P f args ext r ext' fs) : Says P f c := by
  have key : ∀ k, GS P (Γ.addX f (lim μ k c)) := by
    intro k
    induction k using Nat.strongRecOn with
    | _ k ih =>
      refine GS.addX hΓ fun args ext r ext' fs h => ?_
      unfold lim at h
      split at h
      · rename_i hlt
        exact step _ (ih _ hlt) _ _ _ _ _ h rfl
      · cases h
  exact fun args ext r ext' fs h => step _ (key _) _ _ _ _ _ h rfl
/-- Of a function that is lent nothing. -/
def pure' (g : List SV → Option (SV × List Ob)) : Con := fun args ext => match ext with
  | [] => (g args).map fun p => (p.1, [], p.2)
  | _ => none
theorem Says.pure {g : List SV → Option (SV × List Ob)} (h : ∀ args r fs, g args = some (r, fs) → PC P f args [] r [] fs) : Says P f (pure' g) := by
  intro args ext r ext' fs he
  unfold pure' at he
  split at he
  · cases hg : g args with
    | none => simp [hg] at he
    | some p =>
      obtain ⟨r', fs'⟩ := p
      simp [hg] at he
      obtain ⟨rfl, rfl, rfl⟩ := he
      exact h _ _ _ hg
  · cases he

/-- What is known of a function, added to what is known. -/
def Gam.add (Γ : Gam) (f : FuncId) (g : List SV → Option (SV × List Ob)) : Gam := fun f' args ext => if f' = f then (match ext with | [] => (g args).map fun p => (p.1, [], p.2) | _ => none) else Γ f' args ext
theorem GS.add (hΓ : GS P Γ) {g : List SV → Option (SV × List Ob)} (h : ∀ args r fs, g args = some (r, fs) → PC P f args [] r [] fs) : GS P (Γ.add f g) := by
  intro f' args ext r ext' fs he
  unfold Gam.add at he
  split at he
  · rename_i hf
    subst hf
    split at he
    · cases hg : g args with
      | none => simp [hg] at he
      | some p =>
        obtain ⟨r', fs'⟩ := p
        simp [hg] at he
        obtain ⟨rfl, rfl, rfl⟩ := he
        exact h _ _ _ hg
    · cases he
  · exact hΓ _ _ _ _ _ _ he
def Gam.none : Gam := fun _ _ _ => .none
theorem GS.none : GS P Gam.none := by intro g args ext r ext' fs h; simp [Gam.none] at h

/-- A LOOP whose state is told by 's'. -/
theorem loop_ind {α : Type} {b : AC} {Q : Out → Env → Objs → Prop} (E : α → Env) (Ob : α → Objs) (I : α → Prop) (μ : α → Nat)
    (round : ∀ s, I s → ∀ R : Out → Env → Objs → Prop, (∀ o σ O, (o = .norm → False) → Q o σ O → R o σ O) → (∀ s', I s' → μ s' < μ s → R .norm (E s') (Ob s')) → aw Γ ks os b R (E s) (Ob s)) (s : α) (h : I s) :
    aw Γ ks os (.loop b) Q (E s) (Ob s) := by
  have key : ∀ n s, I s → μ s < n → loopN (fun Q' => aw Γ ks os b Q') Q n (E s) (Ob s) := by
    intro n
    induction n with
    | zero => intro s _ h; omega
    | succ n ih =>
      intro s hI hlt
      refine round s hI _ (fun o σ O hne hq => ?_) fun s' hI' hlt' => ih s' hI' (by omega)
      cases o with
      | norm => exact (hne rfl).elim
      | ret => exact hq
      | exit id => exact hq
  exact ⟨μ s + 1, key _ s h (Nat.lt_succ_self _)⟩

/-- The objects of a list. -/
def mkO : List (Nat × Option Ob) → Objs
  | [], _ => .none
  | (k, o) :: r, i => if i = k then o else mkO r i
theorem keepO_mkO (os : List Nat) (O : Objs) : keepO os O = mkO (os.map fun k => (k, O k)) := by
  induction os with
  | nil => rfl
  | cons k r ih => funext i; simp only [keepO, List.map_cons, mkO, ih]
theorem resO_nil' : resO [] [] = mkO [] := by funext n; simp [resO, mkO]

theorem wrap64 {x : Int} (h1 : -9223372036854775808 ≤ x) (h2 : x ≤ 9223372036854775807) : IntKind.i64.wrap x = x := by
  rw [IntKind.wrap_i64]; omega
end
end Go.Proofs.YtpobnchalcokoaaDoor.Pam
