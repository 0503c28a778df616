/- A part of the proof that stands in this folder: a small machine whose steps are shown to be the steps of the model, or walks of functions by it. No condition of its own. -/
import Derived.Test.YtpobnchalcokoaaDoorPamB
import Derived.Laws.Cells
import Derived.Laws.Entries
import Derived.Laws.Cover3
import Derived.Laws.IdiomArrays
import Derived.WalkSpells
set_option linter.unusedVariables false
set_option linter.unusedSimpArgs false
namespace Go.Proofs.YtpobnchalcokoaaDoor.Pam
open Go

section
variable {P : Program} {w : World}
theorem run_info {t : TypeId} {i : TypeInfo} (h : P.info? t = some i) : (typeInfo t).run P w = .ok i w := by simp [typeInfo, h]
theorem run_sz {t : TypeId} {n : Nat} (h : tySz P t = some n) : (sizeOf t).run P w = .ok n w := by
  unfold tySz at h
  cases hi : P.info? t with
  | none => simp [hi] at h
  | some i => simp [hi] at h; simp [sizeOf, run_info hi, h]
theorem run_ag {t : TypeId} {b : Bool} (h : tyAg P t = some b) : (isAgg t).run P w = .ok b w := by
  unfold tyAg at h
  cases hi : P.underlying t with
  | none => simp [hi] at h
  | some d => rw [hi] at h; simp only [isAgg, Sem.run_bind, run_underlying hi, Result.andThen_ok]; cases d <;> simp_all
theorem run_zero {t : TypeId} {z : PV} (h : tyZero P t = some z) : ∃ v, (zeroValue t).run P w = .ok v w ∧ ofVal v = some z := by
  unfold tyZero at h
  cases hi : P.info? t with
  | none => simp [hi] at h
  | some i =>
    rw [hi] at h
    cases hz : i.zero with
    | none => simp [hz] at h
    | some v => simp only [hz] at h; exact ⟨v, by simp [zeroValue, run_info hi, hz], h⟩
end

theorem ofScal_rel {w : World} {S : Nat → Prop} {v : Value} {p : PV} (h : ofScal v = some p) : PR w S p v ∧ p.cells = [p] ∧ v.cells = #[v] := by
  unfold ofScal at h
  split at h <;> first | (cases h; done) | (injection h with h; subst h; refine ⟨?_, rfl, rfl⟩; constructor)
theorem ofScals_rel {w : World} {S : Nat → Prop} {l : List Value} {ps : List PV} (h : ofScals l = some ps) : ps.length = l.length ∧ ∀ i (hi : i < ps.length) (hj : i < l.length), PR w S ps[i] l[i] := by
  induction l generalizing ps with
  | nil => simp [ofScals] at h; subst h; exact ⟨rfl, fun i hi => by simp at hi⟩
  | cons v r ih =>
    simp only [ofScals] at h
    cases h1 : ofScal v with
    | none => simp [h1] at h
    | some a =>
      cases h2 : ofScals r with
      | none => simp [h1, h2] at h
      | some b =>
        simp [h1, h2] at h; subst h
        obtain ⟨hl, hh⟩ := ih h2
        refine ⟨by simp [hl], fun i hi hj => ?_⟩
        cases i with
        | zero => exact (ofScal_rel h1).1
        | succ i => simpa using hh i (by simpa using hi) (by simpa using hj)
theorem ofVal_rel {w : World} {S : Nat → Prop} {v : Value} {p : PV} (h : ofVal v = some p) : PR w S p v := by
  cases v with
  | agg cs =>
    simp only [ofVal] at h
    cases h1 : ofScals cs.toList with
    | none => simp [h1] at h
    | some ps =>
      simp [h1] at h; subst h
      obtain ⟨hl, hh⟩ := ofScals_rel (w := w) (S := S) h1
      refine .agg ps cs (by simp at hl; omega) fun i hi => ?_
      have hj : i < cs.size := by simp at hl; omega
      have := hh i hi (by simpa using hj)
      simpa [Array.getElem?_eq_getElem hj] using this
  | _ => simp only [ofVal] at h; exact (ofScal_rel h).1

section
variable {w : World} {S : Nat → Prop} {β : Nat → Nat} {O : Objs} {σ : Env} {a : Act}
theorem od_rel (hs : Slots w S β O σ a.tmps) {x : Operand} {y : Od} (h : odOf x = some y) : SR w S β O (ev σ y) (a.eval x) := by
  cases x with
  | tmp t => simp [odOf] at h; subst h; exact hs t
  | const v =>
    simp only [odOf] at h
    cases h1 : ofVal v with
    | none => simp [h1] at h
    | some p => simp [h1] at h; subst h; exact .p _ _ (ofVal_rel h1)
  | func f => simp [odOf] at h; subst h; exact .p _ _ (.fn f [] [] #[] #[] rfl rfl (fun i hi => by simp at hi) (fun i hi => by simp at hi))
  | global g => simp [odOf] at h
theorem ods_rel (hs : Slots w S β O σ a.tmps) {x : List Operand} {y : List Od} (h : odsOf x = some y) : y.length = x.length ∧ ∀ i (hi : i < y.length) (hj : i < x.length), SR w S β O (ev σ y[i]) (a.eval x[i]) := by
  induction x generalizing y with
  | nil => simp [odsOf] at h; subst h; exact ⟨rfl, fun i hi => by simp at hi⟩
  | cons v r ih =>
    simp only [odsOf] at h
    cases h1 : odOf v with
    | none => simp [h1] at h
    | some p =>
      cases h2 : odsOf r with
      | none => simp [h1, h2] at h
      | some q =>
        simp [h1, h2] at h; subst h
        obtain ⟨hl, hh⟩ := ih h2
        refine ⟨by simp [hl], fun i hi hj => ?_⟩
        cases i with
        | zero => exact od_rel hs h1
        | succ i => simpa using hh i (by simpa using hi) (by simpa using hj)

/-! reading a related value -/
theorem SR.bool_inv {b : Bool} {x : Value} (h : SR w S β O (.p (.bool b)) x) : x = .bool b := by
  cases h with
  | p _ _ h => cases h; rfl
  | dead _ n _ hr => simp [isRef] at hr
theorem SR.int_inv {k : IntKind} {n : Int} {x : Value} (h : SR w S β O (.p (.int k n)) x) : x = .int k n := by
  cases h with
  | p _ _ h => cases h; rfl
  | dead _ n _ hr => simp [isRef] at hr
theorem SR.p_inv {v : PV} {x : Value} (h : SR w S β O (.p v) x) : PR w S v x := by
  cases h with
  | p _ _ h => exact h
  | dead _ n _ hr => simp [isRef] at hr
theorem SR.un_inv {x : Value} (h : SR w S β O .un x) : x = undef := by
  cases h with
  | un => rfl
  | dead _ n _ hr => simp [isRef] at hr
theorem SR.ag_inv {cs : List SV} {x : Value} (h : SR w S β O (.ag cs) x) : ∃ vs, x = .agg vs ∧ vs.size = cs.length ∧ ∀ i (_ : i < cs.length), SR w S β O cs[i] (vs.getD i undef) := by
  cases h with
  | ag _ vs hn h => exact ⟨vs, rfl, hn, h⟩
  | dead _ n _ hr => simp [isRef] at hr
theorem SR.tp_inv {cs : List SV} {x : Value} (h : SR w S β O (.tp cs) x) : ∃ vs, x = .tuple vs ∧ vs.size = cs.length ∧ ∀ i (_ : i < cs.length), SR w S β O cs[i] (vs.getD i undef) := by
  cases h with
  | tp _ vs hn h => exact ⟨vs, rfl, hn, h⟩
  | dead _ n _ hr => simp [isRef] at hr
theorem SR.cl_inv {f : FuncId} {a c : List SV} {x : Value} (h : SR w S β O (.cl f a c) x) : ∃ va vc, x = .func (.func f) va vc ∧ va.size = a.length ∧ vc.size = c.length ∧ (∀ i (_ : i < a.length), SR w S β O a[i] (va.getD i undef)) ∧ (∀ i (_ : i < c.length), SR w S β O c[i] (vc.getD i undef)) := by
  cases h with
  | cl _ _ _ va vc ha hc h h' => exact ⟨va, vc, rfl, ha, hc, h, h'⟩
  | dead _ n _ hr => simp [isRef] at hr
theorem SR.bx_inv {n off : Nat} {x : Value} (h : SR w S β O (.bx n off) x) (ho : O n ≠ none) : x = .pointer (some ⟨β n, off, none⟩) ∧ ∃ cs, O n = some (.box cs) := by
  cases h with
  | bx _ _ cs h => exact ⟨rfl, cs, h⟩
  | dead _ m _ hr hv h => simp [SV.refs] at hv; subst hv; exact absurd h ho
theorem SR.ar_inv {n : Nat} {x : Value} (h : SR w S β O (.ar n) x) (ho : O n ≠ none) : ∃ sz xs cap, O n = some (.arr sz xs) ∧ x = .slice (some ⟨β n, 0, none⟩) xs.length cap ∧ xs.length ≤ cap ∧ cap * sz ≤ bsz w (β n) := by
  cases h with
  | ar _ sz cap xs h hl hc => exact ⟨sz, xs, cap, h, rfl, hl, hc⟩
  | dead _ m _ hr hv h => simp [SV.refs] at hv; subst hv; exact absurd h ho
theorem SR.sub_inv {n lo hi : Nat} {x : Value} (h : SR w S β O (.sub n lo hi) x) (ho : O n ≠ none) : ∃ sz xs o cap, O n = some (.arr sz xs) ∧ x = .slice (some ⟨β n, o, none⟩) (hi - lo) cap ∧ lo ≤ hi ∧ hi ≤ xs.length ∧ hi - lo ≤ cap ∧ (lo < hi → o = lo * sz) := by
  cases h with
  | sub _ sz _ _ o cap xs h h1 h2 h3 h4 => exact ⟨sz, xs, o, cap, h, rfl, h1, h2, by omega, fun g => h4 (by omega)⟩
  | dead _ m _ hr hv h => simp [SV.refs] at hv; subst hv; exact absurd h ho
theorem SR.sub_inv2 {n lo hi : Nat} {x : Value} (h : SR w S β O (.sub n lo hi) x) (ho : O n ≠ none) : ∃ sz xs o cap, O n = some (.arr sz xs) ∧ x = .slice (some ⟨β n, o, none⟩) (hi - lo) cap ∧ lo ≤ hi ∧ hi ≤ xs.length ∧ xs.length - lo ≤ cap ∧ (lo < xs.length → o = lo * sz) := by
  cases h with
  | sub _ sz _ _ o cap xs h h1 h2 h3 h4 => exact ⟨sz, xs, o, cap, h, rfl, h1, h2, h3, h4⟩
  | dead _ m _ hr hv h => simp [SV.refs] at hv; subst hv; exact absurd h ho
theorem SR.el_inv {n i j : Nat} {x : Value} (h : SR w S β O (.el n i j) x) (ho : O n ≠ none) : ∃ sz xs, O n = some (.arr sz xs) ∧ x = .pointer (some ⟨β n, i * sz + j, none⟩) ∧ i < xs.length := by
  cases h with
  | el _ sz _ _ xs h hi => exact ⟨sz, xs, h, rfl, hi⟩
  | dead _ m _ hr hv h => simp [SV.refs] at hv; subst hv; exact absurd h ho
theorem SR.mp_inv {n : Nat} {x : Value} (h : SR w S β O (.mp n) x) (ho : O n ≠ none) : x = .map (some (β n)) ∧ ∃ es, O n = some (.map es) := by
  cases h with
  | mp _ es h => exact ⟨rfl, es, h⟩
  | dead _ m _ hr hv h => simp [SV.refs] at hv; subst hv; exact absurd h ho

/-- Cells in a row. -/
theorem run_row (P : Program) (b off n : Nat) (vals : Nat → Value) (h : ∀ i, i < n → w.cell? ⟨b, off + i, none⟩ = some (vals i)) :
    (loadCells ⟨b, off, none⟩ n).run P w = .ok ((List.range n).map vals).toArray w := by
  refine run_loadCells w _ n vals fun i hi => ?_
  rw [Addr.add_lit]
  exact h i hi
end
end Go.Proofs.YtpobnchalcokoaaDoor.Pam
