/- A part of the proof that stands in this folder: a small machine whose steps are shown to be the steps of the model, or walks of functions by it. No condition of its own. -/
import Derived.Test.YtpobnchalcokoaaDoorPamA
set_option linter.unusedVariables false
set_option linter.unusedSimpArgs false
namespace Go.Proofs.YtpobnchalcokoaaDoor.Pam
open Go

/-! what the values of the machine stand for in memory -/
inductive PR (w : World) (S : Nat → Prop) : PV → Value → Prop
  | bool (b : Bool) : PR w S (.bool b) (.bool b)
  | int (k : IntKind) (n : Int) : PR w S (.int k n) (.int k n)
  | str (s : ByteArray) : PR w S (.str s) (.string s)
  | agg (cs : List PV) (vs : Array Value) (hn : vs.size = cs.length) (h : ∀ i (hi : i < cs.length), PR w S cs[i] (vs.getD i undef)) : PR w S (.agg cs) (.agg vs)
  | sl (sz : Nat) (xs : List PV) (b off len cap : Nat) (vals : Nat → Value) (hl : len = xs.length) (hcap : len ≤ cap) (hS : S b) (hsz : ∀ x ∈ xs, x.cells.length = sz)
      (hc : ∀ i, i < (flat xs).length → w.cell? ⟨b, off + i, none⟩ = some (vals i)) (h : ∀ i (hi : i < (flat xs).length), PR w S (flat xs)[i] (vals i)) : PR w S (.sl sz xs) (.slice (some ⟨b, off, none⟩) len cap)
  | nilsl : PR w S .nilsl (.slice none 0 0)
  | cp (cs : List PV) (b off : Nat) (vals : Nat → Value) (hS : S b) (hc : ∀ i, i < cs.length → w.cell? ⟨b, off + i, none⟩ = some (vals i)) (h : ∀ i (hi : i < cs.length), PR w S cs[i] (vals i)) : PR w S (.cp cs) (.pointer (some ⟨b, off, none⟩))
  | np : PR w S .np (.pointer none)
  | fn (f : FuncId) (a c : List PV) (va vc : Array Value) (ha : va.size = a.length) (hc : vc.size = c.length) (h : ∀ i (hi : i < a.length), PR w S a[i] (va.getD i undef)) (h' : ∀ i (hi : i < c.length), PR w S c[i] (vc.getD i undef)) : PR w S (.fn f a c) (.func (.func f) va vc)
  | nilfn : PR w S .nilfn .nilFunc
  | mapv (es : List (PV × PV)) (r clock : Nat) (en : Array MapEntry) (hS : S r) (hr : w.heap[r]? = some (.map en clock)) (hn : en.size = es.length)
      (hk : ∀ i (hi : i < es.length), PR w S es[i].1 (en.getD i default).key) (hv : ∀ i (hi : i < es.length), PR w S es[i].2 (en.getD i default).val) : PR w S (.mapv es) (.map (some r))
  | nilmap : PR w S .nilmap (.map none)
  | wh (A : Nat → Prop) (xs : List PV) (b len cap : Nat) (c : Array Value) (ty : TypeId) (hl : len = xs.length) (hcap : len ≤ cap) (hS : S b) (hA : ¬ A b) (hb : w.heap[b]? = some (.cells c ty (0, 0))) (hcs : cap ≤ c.size)
      (h : ∀ i (hi : i < xs.length), ∃ k n, xs[i] = .int k n ∧ c.getD i undef = .int k n) : PR w S (.wh A xs) (.slice (some ⟨b, 0, none⟩) len cap)
  | li (A : Nat → Prop) (xs : List PV) (b off len cap : Nat) (hl : len = xs.length) (hcap : len ≤ cap) (hS : ∀ b, A b → S b) (hA : S b)
      (hc : ∀ i (hi : i < xs.length), ∃ k n, xs[i] = .int k n ∧ w.cell? ⟨b, off + i, none⟩ = some (.int k n)) : PR w S (.li A xs) (.slice (some ⟨b, off, none⟩) len cap)
  | tok (A : Nat → Prop) (hS : ∀ b, A b → S b) : PR w S (.tok A) undef

theorem PR.mono {w w' : World} {S S' : Nat → Prop} (hS : ∀ b, S b → S' b ∧ w'.heap[b]? = w.heap[b]?) {v : PV} {x : Value} (h : PR w S v x) : PR w' S' v x := by
  induction h with
  | bool b => exact .bool b
  | int k n => exact .int k n
  | str s => exact .str s
  | agg cs vs hn _ ih => exact .agg cs vs hn ih
  | sl sz xs b off len cap vals hl hcap hb hsz hc _ ih =>
    refine .sl sz xs b off len cap vals hl hcap (hS b hb).1 hsz (fun i hi => ?_) ih
    rw [← hc i hi]; simp only [World.cell?, (hS b hb).2]
  | nilsl => exact .nilsl
  | cp cs b off vals hb hc _ ih =>
    refine .cp cs b off vals (hS b hb).1 (fun i hi => ?_) ih
    rw [← hc i hi]; simp only [World.cell?, (hS b hb).2]
  | np => exact .np
  | fn f a c va vc ha hc _ _ ih ih' => exact .fn f a c va vc ha hc ih ih'
  | nilfn => exact .nilfn
  | mapv es r clock en hb hr hn _ _ ih ih' => exact .mapv es r clock en (hS r hb).1 (by rw [(hS r hb).2]; exact hr) hn ih ih'
  | nilmap => exact .nilmap
  | wh A xs b len cap c ty hl hcap hb hA hbb hcs h => exact .wh A xs b len cap c ty hl hcap (hS b hb).1 hA (by rw [(hS b hb).2]; exact hbb) hcs h
  | li A xs b off len cap hl hcap hA hb hc =>
    refine .li A xs b off len cap hl hcap (fun b h => (hS b (hA b h)).1) (hS b hb).1 fun i hi => ?_
    obtain ⟨k, n, h1, h2⟩ := hc i hi
    refine ⟨k, n, h1, ?_⟩
    rw [← h2]; simp only [World.cell?, (hS b hb).2]
  | tok A hA => exact .tok A fun b h => (hS b (hA b h)).1

def isRef : SV → Bool
  | .bx _ _ | .ar _ | .sub _ _ _ | .el _ _ _ | .mp _ => true
  | _ => false

def bsz (w : World) (b : Nat) : Nat := match w.heap[b]? with | some (.cells c _ _) => c.size | _ => 0

inductive SR (w : World) (S : Nat → Prop) (β : Nat → Nat) (O : Objs) : SV → Value → Prop
  | p (v : PV) (x : Value) (h : PR w S v x) : SR w S β O (.p v) x
  | ag (cs : List SV) (vs : Array Value) (hn : vs.size = cs.length) (h : ∀ i (hi : i < cs.length), SR w S β O cs[i] (vs.getD i undef)) : SR w S β O (.ag cs) (.agg vs)
  | tp (cs : List SV) (vs : Array Value) (hn : vs.size = cs.length) (h : ∀ i (hi : i < cs.length), SR w S β O cs[i] (vs.getD i undef)) : SR w S β O (.tp cs) (.tuple vs)
  | bx (n off : Nat) (cs : List SV) (ho : O n = some (.box cs)) : SR w S β O (.bx n off) (.pointer (some ⟨β n, off, none⟩))
  | ar (n sz cap : Nat) (xs : List PV) (ho : O n = some (.arr sz xs)) (hl : xs.length ≤ cap) (hc : cap * sz ≤ bsz w (β n)) : SR w S β O (.ar n) (.slice (some ⟨β n, 0, none⟩) xs.length cap)
  | sub (n sz lo hi o cap : Nat) (xs : List PV) (ho : O n = some (.arr sz xs)) (h1 : lo ≤ hi) (h2 : hi ≤ xs.length) (h3 : xs.length - lo ≤ cap) (h4 : lo < xs.length → o = lo * sz) : SR w S β O (.sub n lo hi) (.slice (some ⟨β n, o, none⟩) (hi - lo) cap)
  | el (n sz i j : Nat) (xs : List PV) (ho : O n = some (.arr sz xs)) (hi : i < xs.length) : SR w S β O (.el n i j) (.pointer (some ⟨β n, i * sz + j, none⟩))
  | mp (n : Nat) (es : List (PV × PV)) (ho : O n = some (.map es)) : SR w S β O (.mp n) (.map (some (β n)))
  | cl (f : FuncId) (a c : List SV) (va vc : Array Value) (ha : va.size = a.length) (hc : vc.size = c.length) (h : ∀ i (hi : i < a.length), SR w S β O a[i] (va.getD i undef)) (h' : ∀ i (hi : i < c.length), SR w S β O c[i] (vc.getD i undef)) : SR w S β O (.cl f a c) (.func (.func f) va vc)
  | un : SR w S β O .un undef
  | junk (x : Value) : SR w S β O .junk x
  | dead (v : SV) (n : Nat) (x : Value) (hr : isRef v = true) (hv : v.refs = [n]) (ho : O n = none) : SR w S β O v x

def OR (w : World) (S : Nat → Prop) (β : Nat → Nat) (O : Objs) (n : Nat) : Ob → Prop
  | .box cs => ∃ c ty, w.heap[β n]? = some (.cells c ty (0, 0)) ∧ c.size = cs.length ∧ ∀ i (hi : i < cs.length), SR w S β O cs[i] (c.getD i undef)
  | .arr sz xs => ∃ c ty, w.heap[β n]? = some (.cells c ty (0, 0)) ∧ (∀ x ∈ xs, x.cells.length = sz) ∧ (flat xs).length ≤ c.size ∧ ∀ i (hi : i < (flat xs).length), PR w S (flat xs)[i] (c.getD i undef)
  | .map es => ∃ en clock, w.heap[β n]? = some (.map en clock) ∧ en.size = es.length ∧ (∀ i (hi : i < es.length), PR w S es[i].1 (en.getD i default).key) ∧ (∀ i (hi : i < es.length), PR w S es[i].2 (en.getD i default).val)

structure Rel (w : World) (S : Nat → Prop) (β : Nat → Nat) (O : Objs) : Prop where
  live : ∀ n, O n ≠ none → β n < w.heap.size
  inj : ∀ n m, O n ≠ none → O m ≠ none → β n = β m → n = m
  sep : ∀ b, S b → b < w.heap.size ∧ ∀ n, O n ≠ none → β n ≠ b
  obj : ∀ n o, O n = some o → OR w S β O n o

def Slots (w : World) (S : Nat → Prop) (β : Nat → Nat) (O : Objs) (σ : Env) (tmps : Array Value) : Prop := ∀ i, SR w S β O (σ i) (tmps.getD i undef)

theorem refsL_mem {cs : List SV} {i : Nat} (hi : i < cs.length) {n : Nat} (h : n ∈ (cs[i]).refs) : n ∈ SV.refsL cs := by
  induction cs generalizing i with
  | nil => simp at hi
  | cons c cs ih =>
    simp only [SV.refsL, List.mem_append]
    cases i with
    | zero => exact .inl h
    | succ i => exact .inr (ih (by simpa using hi) h)

def likeO : Ob → Ob → Prop
  | .box _, .box _ => True
  | .arr sz xs, .arr sz' xs' => sz = sz' ∧ xs.length = xs'.length
  | .map _, .map _ => True
  | _, _ => False

theorem SR.mono {w w' : World} {S S' : Nat → Prop} {β β' : Nat → Nat} {O O' : Objs} (hS : ∀ b, S b → S' b ∧ w'.heap[b]? = w.heap[b]?) {v : SV} {x : Value} (h : SR w S β O v x)
    (hO : ∀ n ∈ v.refs, O' n = none ∨ ∃ o o', O n = some o ∧ O' n = some o' ∧ likeO o o' ∧ β' n = β n ∧ bsz w' (β n) = bsz w (β n)) : SR w' S' β' O' v x := by
  induction h with
  | p v x h => exact .p v x (h.mono hS)
  | ag cs vs hn _ ih => exact .ag cs vs hn fun i hi => ih i hi fun n hm => hO n (by simp only [SV.refs]; exact refsL_mem hi hm)
  | tp cs vs hn _ ih => exact .tp cs vs hn fun i hi => ih i hi fun n hm => hO n (by simp only [SV.refs]; exact refsL_mem hi hm)
  | bx n off cs ho =>
    rcases hO n (by simp [SV.refs]) with h | ⟨o, o', h1, h2, h3, h4, _⟩
    · exact .dead _ n _ rfl rfl h
    · rw [ho] at h1; cases h1
      cases o' <;> simp only [likeO] at h3
      rw [← h4]; exact .bx n off _ h2
  | ar n sz cap xs ho hl hc =>
    rcases hO n (by simp [SV.refs]) with h | ⟨o, o', h1, h2, h3, h4, h5⟩
    · exact .dead _ n _ rfl rfl h
    · rw [ho] at h1; cases h1
      cases o' <;> simp only [likeO] at h3
      obtain ⟨rfl, h3⟩ := h3
      rw [← h4, h3]; exact .ar n _ cap _ h2 (by omega) (by rw [h4, h5]; exact hc)
  | sub n sz lo hi o cap xs ho h1 h2 h3 h4 =>
    rcases hO n (by simp [SV.refs]) with h | ⟨o, o', g1, g2, g3, g4, _⟩
    · exact .dead _ n _ rfl rfl h
    · rw [ho] at g1; cases g1
      cases o' <;> simp only [likeO] at g3
      obtain ⟨rfl, g3⟩ := g3
      rw [← g4]; exact .sub n _ lo hi _ cap _ g2 h1 (by omega) (by omega) (fun g => h4 (by omega))
  | el n sz i j xs ho hi =>
    rcases hO n (by simp [SV.refs]) with h | ⟨o, o', g1, g2, g3, g4, _⟩
    · exact .dead _ n _ rfl rfl h
    · rw [ho] at g1; cases g1
      cases o' <;> simp only [likeO] at g3
      obtain ⟨rfl, g3⟩ := g3
      rw [← g4]; exact .el n _ i j _ g2 (by omega)
  | mp n es ho =>
    rcases hO n (by simp [SV.refs]) with h | ⟨o, o', g1, g2, g3, g4, _⟩
    · exact .dead _ n _ rfl rfl h
    · rw [ho] at g1; cases g1
      cases o' <;> simp only [likeO] at g3
      rw [← g4]; exact .mp n _ g2
  | cl f a c va vc ha hc _ _ ih ih' =>
    exact .cl f a c va vc ha hc (fun i hi => ih i hi fun n hm => hO n (by simp only [SV.refs]; exact List.mem_append_left _ (refsL_mem hi hm))) (fun i hi => ih' i hi fun n hm => hO n (by simp only [SV.refs]; exact List.mem_append_right _ (refsL_mem hi hm)))
  | un => exact .un
  | junk x => exact .junk x
  | dead v n x hr hv ho =>
    rcases hO n (by simp [hv]) with h | ⟨o, o', g1, _⟩
    · exact .dead v n x hr hv h
    · rw [ho] at g1; cases g1

/-! objects given up -/
theorem trL_length (f : SV → SV) (cs : List SV) : (SV.trL f cs).length = cs.length := by
  induction cs with
  | nil => rfl
  | cons c cs ih => simp [SV.trL, ih]
theorem trL_get (f : SV → SV) (cs : List SV) (i : Nat) (h : i < (SV.trL f cs).length) : (SV.trL f cs)[i] = (cs[i]'(by rw [trL_length] at h; exact h)).tr f := by
  induction cs generalizing i with
  | nil => simp [SV.trL] at h
  | cons c cs ih =>
    cases i with
    | zero => rfl
    | succ i => simp only [SV.trL, List.getElem_cons_succ]; exact ih i _

theorem tr_ref {f : SV → SV} {v : SV} (h : isRef v = true) : v.tr f = f v := by cases v <;> simp_all [isRef, SV.tr]

theorem SR.tr {w w' : World} {S S' : Nat → Prop} {β β' : Nat → Nat} {O O' : Objs} {f : SV → SV} (hp : ∀ v x, PR w S v x → PR w' S' v x)
    (hf : ∀ v x, isRef v = true → SR w S β O v x → SR w' S' β' O' (f v) x) {v : SV} {x : Value} (h : SR w S β O v x) : SR w' S' β' O' (v.tr f) x := by
  induction h with
  | p v x h => exact .p v x (hp v x h)
  | ag cs vs hn _ ih =>
    simp only [SV.tr]
    exact .ag _ vs (by rw [trL_length]; exact hn) fun i hi => by rw [trL_get]; exact ih i _
  | tp cs vs hn _ ih =>
    simp only [SV.tr]
    exact .tp _ vs (by rw [trL_length]; exact hn) fun i hi => by rw [trL_get]; exact ih i _
  | bx n off cs ho => rw [tr_ref rfl]; exact hf _ _ rfl (.bx n off cs ho)
  | ar n sz cap xs ho hl hc => rw [tr_ref rfl]; exact hf _ _ rfl (.ar n sz cap xs ho hl hc)
  | sub n sz lo hi o cap xs ho h1 h2 h3 h4 => rw [tr_ref rfl]; exact hf _ _ rfl (.sub n sz lo hi o cap xs ho h1 h2 h3 h4)
  | el n sz i j xs ho hi => rw [tr_ref rfl]; exact hf _ _ rfl (.el n sz i j xs ho hi)
  | mp n es ho => rw [tr_ref rfl]; exact hf _ _ rfl (.mp n es ho)
  | cl g a c va vc ha hc _ _ ih ih' =>
    simp only [SV.tr]
    exact .cl g _ _ va vc (by rw [trL_length]; exact ha) (by rw [trL_length]; exact hc) (fun i hi => by rw [trL_get]; exact ih i _) (fun i hi => by rw [trL_get]; exact ih' i _)
  | un => exact .un
  | junk x => exact .junk x
  | dead v n x hr hv ho =>
    rw [tr_ref hr]
    exact hf v x hr (.dead v n x hr hv ho)

theorem bsz_cells {w : World} {b : Nat} {c : Array Value} {ty : TypeId} {z : Nat × Nat} (h : w.heap[b]? = some (.cells c ty z)) : bsz w b = c.size := by simp [bsz, h]

theorem cell_of {w : World} {b : Nat} {c : Array Value} {ty : TypeId} {z : Nat × Nat} (h : w.heap[b]? = some (.cells c ty z)) (i : Nat) (hi : i < c.size) : w.cell? ⟨b, i, none⟩ = some (c.getD i undef) := by
  simp [World.cell?, h, Array.getElem?_eq_getElem hi]

theorem flat_length {sz : Nat} {xs : List PV} (h : ∀ x ∈ xs, x.cells.length = sz) : (flat xs).length = xs.length * sz := by
  induction xs with
  | nil => simp [flat]
  | cons x xs ih =>
    have h1 := h x (by simp)
    have h2 := ih fun y hy => h y (by simp [hy])
    simp only [flat] at h2
    simp only [flat, List.flatMap_cons, List.length_append, h1, h2, List.length_cons, Nat.succ_mul]
    omega
theorem flat_get {sz : Nat} {xs : List PV} (h : ∀ x ∈ xs, x.cells.length = sz) (i j : Nat) (hi : i < xs.length) (hj : j < sz) (hk : i * sz + j < (flat xs).length) :
    (flat xs)[i * sz + j] = (xs[i]).cells[j]'(by rw [h _ (List.getElem_mem hi)]; exact hj) := by
  induction xs generalizing i with
  | nil => simp at hi
  | cons x xs ih =>
    have h1 : x.cells.length = sz := h x (by simp)
    cases i with
    | zero =>
      simp only [flat, List.flatMap_cons, Nat.zero_mul, Nat.zero_add, List.getElem_cons_zero]
      rw [List.getElem_append_left]
    | succ i =>
      have e : (i + 1) * sz + j = sz + (i * sz + j) := by rw [Nat.succ_mul]; omega
      have h2 : ∀ y ∈ xs, y.cells.length = sz := fun y hy => h y (by simp [hy])
      have hi' : i < xs.length := by simpa using hi
      have hlt : i * sz + j < (flat xs).length := by
        rw [flat_length h2]
        calc i * sz + j < i * sz + sz := by omega
          _ = (i + 1) * sz := by rw [Nat.succ_mul]
          _ ≤ xs.length * sz := Nat.mul_le_mul_right _ (by omega)
      have := ih h2 i hi' hlt
      simp only [List.getElem_cons_succ]
      rw [← this]
      simp only [flat, List.flatMap_cons, e]
      rw [List.getElem_append_right (by omega)]
      congr 1
      omega
theorem flat_append (xs ys : List PV) : flat (xs ++ ys) = flat xs ++ flat ys := by simp [flat]
theorem flat_take {sz : Nat} {xs : List PV} (h : ∀ x ∈ xs, x.cells.length = sz) (k : Nat) : flat (xs.take k) = (flat xs).take (k * sz) := by
  induction xs generalizing k with
  | nil => simp [flat]
  | cons x xs ih =>
    have h1 : x.cells.length = sz := h x (by simp)
    have h2 : ∀ y ∈ xs, y.cells.length = sz := fun y hy => h y (by simp [hy])
    cases k with
    | zero => simp [flat]
    | succ k =>
      have := ih h2 k
      simp only [flat] at this
      simp only [List.take_succ_cons, flat, List.flatMap_cons, this]
      rw [List.take_append, h1, Nat.succ_mul]
      congr 1
      · rw [List.take_of_length_le (by omega)]
      · congr 1; omega
theorem flat_drop {sz : Nat} {xs : List PV} (h : ∀ x ∈ xs, x.cells.length = sz) (k : Nat) : flat (xs.drop k) = (flat xs).drop (k * sz) := by
  induction xs generalizing k with
  | nil => simp [flat]
  | cons x xs ih =>
    have h1 : x.cells.length = sz := h x (by simp)
    have h2 : ∀ y ∈ xs, y.cells.length = sz := fun y hy => h y (by simp [hy])
    cases k with
    | zero => simp [flat]
    | succ k =>
      have := ih h2 k
      simp only [flat] at this
      simp only [List.drop_succ_cons, flat, List.flatMap_cons, this]
      have e : (k + 1) * sz = x.cells.length + k * sz := by rw [h1, Nat.succ_mul]; omega
      rw [e, List.drop_append, List.drop_of_length_le (Nat.le_add_right _ _), List.nil_append]
      congr 1; omega

end Go.Proofs.YtpobnchalcokoaaDoor.Pam
