/- A part of the proof that stands in this folder: a small machine whose steps are shown to be the steps of the model, or walks of functions by it. No condition of its own. -/
import Derived.Test.YtpobnchalcokoaaDoorPamR
set_option linter.unusedVariables false
set_option linter.unusedSimpArgs false
namespace Go.Proofs.YtpobnchalcokoaaDoor.Pam
open Go

def rvA (O : Objs) (σ : Env) : RV → Option SV
  | .tmp t => some (σ t)
  | .cell t n ag => loadA O ag n (σ t)
def retA (O : Objs) (σ : Env) (rs : List RV) : Option SV := match rs with
  | [r] => rvA O σ r
  | rs => (rs.mapM (rvA O σ)).map .tp

/-- The name of an object for the caller: those in 'own' are new, those that are lent keep theirs. -/
def rn (own : List Nat) (m : Nat) : Option Nat := match own.findIdx? (· == m) with
  | some j => some (F j)
  | none => if 1000000 ≤ m ∧ m < 2000000 then some m else none
def nmF (own : List Nat) : SV → SV
  | .ar m => match rn own m with | some k => .ar k | none => .junk
  | .sub m lo hi => match rn own m with | some k => .sub k lo hi | none => .junk
  | .bx m o => match rn own m with | some k => .bx k o | none => .junk
  | .el m i j => match rn own m with | some k => .el k i j | none => .junk
  | .mp m => match rn own m with | some k => .mp k | none => .junk
  | v => v

/-- The end of a function: its result, what became of what was lent, what is new. -/
def finA (rs : List RV) (ext : List Ob) (r : SV) (ext' fs : List Ob) : Out → Env → Objs → Prop := fun out σ O =>
  (match out with | .exit _ => False | _ => True) ∧ ∃ own r0, retA O σ rs = some r0 ∧ r0.tr (nmF own) = r ∧ own.map O = fs.map some ∧ own.Nodup ∧ (own.all fun n => decide (n < 1000000)) = true ∧ fs.all plainOb = true ∧
    ext'.length = ext.length ∧ (∀ i, i < ext.length → O (X i) = ext'[i]?) ∧ (ext'.all fun o => o.refs.all fun n => decide (n < 2000000)) = true

def argE (args : List SV) : Env := fun i => args.getD i .junk

section
variable {P : Program} {w w' w0 : World} {S S' S0 : Nat → Prop} {β β' β0 : Nat → Nat} {O0 : Objs} {N : Nat} {O O' : Objs} {σ σ' : Env} {a : Act} {ann : Nat → Option Ann} {Γ : Gam} {Q : Exit → Act → World → Prop} {ks os : List Nat} {tmps : Array Value}

theorem loadA_rel (hr : Rel w S β O) {sv : SV} {x : Value} (h : SR w S β O sv x) {t : TypeId} {ag : Bool} {n : Nat} (hag : tyAg P t = some ag) (hn : tySz P t = some n) {v : SV} (hd : loadA O ag n sv = some v) :
    ∃ y, ((asAddr x).run P w).andThen (fun ad w => (loadVar t ad).run P w) = .ok y w ∧ SR w S β O v y := by
  let o : Oper := { (default : Oper) with op := .load t (.tmp 0) }
  let a : Act := { tmps := #[x], defers := [] }
  have hs : Slots w S β O (fun i => if i = 0 then sv else .junk) a.tmps := fun i => by
    by_cases hi : i = 0
    · subst hi; simpa [a] using h
    · simp only [if_neg hi]; exact .junk _
  obtain ⟨y, hy, hv⟩ := sim_load (P := P) (o := o) (a := a) hr hs rfl hag hn (y := .t 0) rfl hd
  refine ⟨y, ?_, hv⟩
  have he : a.eval (.tmp 0) = x := by simp [a, Act.eval]
  simp only [o, execOp, Instr.loadAt, he, Sem.run_bind] at hy
  cases x <;> simp only [Instr.sureAddr, asAddr] at hy ⊢ <;> try (simp [stuck] at hy; done)
  rename_i ad
  cases ad with
  | none => simp [Instr.sureAddr, stuck] at hy
  | some ad =>
    simp only [Sem.run_pure, Result.andThen_ok] at hy ⊢
    cases hl : (loadVar t ad).run P w with
    | halt u w1 => rw [hl] at hy; simp at hy
    | ok u w1 => rw [hl] at hy; simp at hy; obtain ⟨rfl, rfl⟩ := hy; rfl

theorem rv_rel (hr : Rel w S β O) (hs : Slots w S β O σ tmps) {rv : ResultVar} {r : RV} (h : rvOf P rv = some r) {v : SV} (hd : rvA O σ r = some v) :
    ∃ y, ((match rv with | .tmp t => pure (tmps.getD t undef) | .cell a t => do loadVar t (← asAddr (tmps.getD a undef))) : Sem Value).run P w = .ok y w ∧ SR w S β O v y := by
  cases rv with
  | tmp t => simp [rvOf] at h; subst h; simp [rvA] at hd; subst hd; exact ⟨_, by simp, hs t⟩
  | cell a t =>
    simp only [rvOf] at h
    split at h
    · rename_i h1 h2
      injection h with h; subst h
      obtain ⟨y, h3, h4⟩ := loadA_rel hr (hs a) h2 h1 hd
      exact ⟨y, by simpa using h3, h4⟩
    · cases h

theorem rvs_rel {g : ResultVar → Sem Value} (hg : ∀ rv r v, rvOf P rv = some r → rvA O σ r = some v → ∃ y, (g rv).run P w = .ok y w ∧ SR w S β O v y) : ∀ {rvs : List ResultVar} {rs : List RV} {vs : List SV}, rvsOf P rvs = some rs → rs.mapM (rvA O σ) = some vs →
    ∃ ys : List Value, (rvs.mapM g).run P w = .ok ys w ∧ ys.length = vs.length ∧ ∀ i (_ : i < vs.length), SR w S β O vs[i] (ys.getD i undef)
  | [], rs, vs, h, hd => by simp [rvsOf] at h; subst h; simp at hd; subst hd; exact ⟨[], by simp, rfl, fun i hi => by simp at hi⟩
  | rv :: r, rs, vs, h, hd => by
    simp only [rvsOf] at h
    cases h1 : rvOf P rv with
    | none => simp [h1] at h
    | some q =>
      cases h2 : rvsOf P r with
      | none => simp [h1, h2] at h
      | some rs' =>
        simp [h1, h2] at h; subst h
        simp only [List.mapM_cons] at hd
        cases h3 : rvA O σ q with
        | none => simp [h3] at hd
        | some v =>
          cases h4 : rs'.mapM (rvA O σ) with
          | none => simp [h3, h4] at hd
          | some vs' =>
            simp [h3, h4] at hd; subst hd
            obtain ⟨y, g1, g2⟩ := hg _ _ _ h1 h3
            obtain ⟨ys, g3, g4, g5⟩ := rvs_rel hg h2 h4
            refine ⟨y :: ys, ?_, by simp [g4], fun i hi => ?_⟩
            · simp only [List.mapM_cons, Sem.run_bind, g1, Result.andThen_ok, g3, Sem.run_pure]
            · cases i with
              | zero => simpa using g2
              | succ i => simpa using g5 i (by simpa using hi)

theorem ret_rel_g {g : ResultVar → Sem Value} (hg : ∀ rv r v, rvOf P rv = some r → rvA O σ r = some v → ∃ y, (g rv).run P w = .ok y w ∧ SR w S β O v y) {rvs : Array ResultVar} {rs : List RV} (h : rvsOf P rvs.toList = some rs) {v : SV} (hd : retA O σ rs = some v) :
    ∃ y, (do let vs ← rvs.mapM g; pure (if h : vs.size = 1 then vs[0] else .tuple vs) : Sem Value).run P w = .ok y w ∧ SR w S β O v y := by
  have key : ∀ vs, rs.mapM (rvA O σ) = some vs → ∃ ys : Array Value, (rvs.mapM g).run P w = .ok ys w ∧ ys.size = vs.length ∧ ∀ i (_ : i < vs.length), SR w S β O vs[i] (ys.getD i undef) := by
    intro vs hv
    obtain ⟨ys, g1, g2, g3⟩ := rvs_rel hg h hv
    refine ⟨ys.toArray, ?_, by simpa using g2, fun i hi => by simpa using g3 i hi⟩
    rw [Array.mapM_eq_mapM_toList]
    simp [g1]
  rw [Sem.run_bind]
  by_cases h1 : ∃ r, rs = [r]
  · obtain ⟨r, hr1⟩ := h1
    subst hr1
    obtain ⟨ys, g1, g2, g3⟩ := key [v] (by simp only [retA] at hd; simp [hd])
    refine ⟨ys.getD 0 undef, ?_, g3 0 (by simp)⟩
    rw [g1]
    have : ys.size = 1 := g2
    simp [this]
  · have hd' : (rs.mapM (rvA O σ)).map .tp = some v := by
      match rs, h1, hd with
      | [], _, hd => exact hd
      | [r], h1, _ => exact absurd ⟨r, rfl⟩ h1
      | _ :: _ :: _, _, hd => exact hd
    cases hm : rs.mapM (rvA O σ) with
    | none => simp [hm] at hd'
    | some vs =>
      simp [hm] at hd'; subst hd'
      obtain ⟨ys, g1, g2, g3⟩ := key vs hm
      have hl := (mapM_some hm).1
      have hne : ys.size ≠ 1 := fun e => by
        have : rs.length = 1 := by omega
        obtain ⟨r, e⟩ := List.length_eq_one_iff.1 this
        exact h1 ⟨r, e⟩
      refine ⟨.tuple ys, ?_, .tp vs ys g2 g3⟩
      rw [g1]
      simp [hne]

theorem ret_rel (hr : Rel w S β O) (hs : Slots w S β O σ tmps) {fn : Func} {rs : List RV} (h : rvsOf P fn.results.toList = some rs) {v : SV} (hd : retA O σ rs = some v) :
    ∃ y, (results fn tmps).run P w = .ok y w ∧ SR w S β O v y := by
  unfold results
  refine ret_rel_g (fun rv r v h1 h2 => ?_) h hd
  obtain ⟨y, h3, h4⟩ := rv_rel hr hs h1 h2
  refine ⟨y, ?_, h4⟩
  cases rv <;> exact h3
end
end Go.Proofs.YtpobnchalcokoaaDoor.Pam
