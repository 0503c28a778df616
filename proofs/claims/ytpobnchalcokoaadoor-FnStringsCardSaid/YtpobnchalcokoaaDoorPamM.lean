/- A part of the proof that stands in this folder: a small machine whose steps are shown to be the steps of the model, or walks of functions by it. No condition of its own. -/
import Derived.Test.YtpobnchalcokoaaDoorPamL
import Derived.Laws.CopyRow
set_option linter.unusedVariables false
set_option linter.unusedSimpArgs false
namespace Go.Proofs.YtpobnchalcokoaaDoor.Pam
open Go

section
variable {P : Program} {w w' w1 : World} {S S' S2 : Nat → Prop} {β β' : Nat → Nat} {O O' : Objs} {σ σ' : Env} {a : Act} {o : Oper} {v : SV} {ann : Nat → Option Ann} {Γ : Gam} {tmps : Array Value} {K : Act → World → Prop} {Q : Exit → Act → World → Prop}

/-- Things in a row stand for the cells of an array. -/
def Seq {α : Type} (R : α → Value → Prop) (l : List α) (c : List Value) : Prop := l.length ≤ c.length ∧ ∀ i (hi : i < l.length), R l[i] (c.getD i undef)

theorem seg_get {α : Type} (l r : List α) (off i : Nat) (h : off + r.length ≤ l.length) : (l.take off ++ r ++ l.drop (off + r.length))[i]? = if off ≤ i ∧ i < off + r.length then r[i - off]? else l[i]? := by
  have h1 : (l.take off).length = off := by simp; omega
  by_cases g1 : i < off
  · rw [if_neg (by omega), List.append_assoc, List.getElem?_append_left (by omega), List.getElem?_take_of_lt g1]
  · by_cases g2 : i < off + r.length
    · rw [if_pos (by omega), List.append_assoc, List.getElem?_append_right (by omega), List.getElem?_append_left (by omega), h1]
    · rw [if_neg (by omega), List.append_assoc, List.getElem?_append_right (by omega), List.getElem?_append_right (by omega), List.getElem?_drop, h1]
      congr 1; omega
theorem seg_length {α : Type} (l r : List α) (off : Nat) (h : off + r.length ≤ l.length) : (l.take off ++ r ++ l.drop (off + r.length)).length = l.length := by simp; omega

theorem Seq.seg {α : Type} {R : α → Value → Prop} {l r : List α} {c d : List Value} {off : Nat} (h : Seq R l c) (hr : Seq R r d) (hrd : r.length = d.length) (hfit : off + r.length ≤ l.length) :
    Seq R (l.take off ++ r ++ l.drop (off + r.length)) (c.take off ++ d ++ c.drop (off + d.length)) := by
  have hl := seg_length l r off hfit
  have hc := seg_length c d off (by have := h.1; omega)
  refine ⟨by rw [hl, hc]; exact h.1, fun i hi => ?_⟩
  have h1 := seg_get l r off i hfit
  have h2 := seg_get c d off i (by have := h.1; omega)
  rw [List.getElem?_eq_getElem hi] at h1
  rw [hl] at hi
  rw [List.getD_eq_getElem?_getD, h2]
  by_cases g : off ≤ i ∧ i < off + r.length
  · rw [if_pos g] at h1
    rw [if_pos (by omega)]
    rw [List.getElem?_eq_getElem (show i - off < r.length by omega)] at h1
    injection h1 with h1
    rw [h1]
    have := hr.2 (i - off) (by omega)
    rwa [List.getD_eq_getElem?_getD] at this
  · rw [if_neg g] at h1
    rw [if_neg (by omega)]
    rw [List.getElem?_eq_getElem hi] at h1
    injection h1 with h1
    rw [h1]
    have := h.2 i hi
    rwa [List.getD_eq_getElem?_getD] at this

theorem putCells_eq (cs : List SV) (off : Nat) (vs : List SV) (h : off + vs.length ≤ cs.length) : putCells cs off vs = cs.take off ++ vs ++ cs.drop (off + vs.length) := by
  apply List.ext_getElem?
  intro i
  rw [putCells_get, seg_get cs vs off i h]
  by_cases g : off ≤ i ∧ i < off + vs.length
  · rw [if_pos (by omega), if_pos g]
  · rw [if_neg (by omega), if_neg g]
theorem putPV_eq (cs : List PV) (off : Nat) (vs : List PV) (h : off + vs.length ≤ cs.length) : putPV cs off vs = cs.take off ++ vs ++ cs.drop (off + vs.length) := by
  induction vs generalizing cs off with
  | nil => simp [putPV]
  | cons v r ih =>
    simp only [putPV]
    rw [ih _ _ (by simp at h ⊢; omega)]
    have hlt : off < cs.length := by simp at h; omega
    rw [List.take_succ_eq_append_getElem (by simpa using hlt)]
    simp only [List.getElem_set_self, List.length_cons]
    rw [List.take_set_of_le (by omega), List.drop_set_of_lt (by omega)]
    simp [Nat.add_assoc, Nat.add_comm 1 r.length]

theorem flat_split {sz : Nat} {xs : List PV} (h : ∀ x ∈ xs, x.cells.length = sz) {i : Nat} (hi : i < xs.length) : flat xs = flat (xs.take i) ++ (xs[i]).cells ++ flat (xs.drop (i + 1)) ∧ (flat (xs.take i)).length = i * sz := by
  constructor
  · calc flat xs = flat (xs.take i ++ xs.drop i) := by rw [List.take_append_drop]
      _ = flat (xs.take i) ++ flat (xs[i] :: xs.drop (i + 1)) := by rw [← List.drop_eq_getElem_cons hi, flat_append]
      _ = _ := by simp only [flat, List.flatMap_cons, List.append_assoc]
  · rw [flat_length (sz := sz) fun x hx => h x (List.mem_of_mem_take hx), List.length_take, Nat.min_eq_left (by omega)]
theorem flat_set {sz : Nat} {xs : List PV} (h : ∀ x ∈ xs, x.cells.length = sz) {i j : Nat} (hi : i < xs.length) {e : PV} {r : List PV} (he : e.cells = (xs[i]).cells.take j ++ r ++ (xs[i]).cells.drop (j + r.length)) (hfit : j + r.length ≤ sz) :
    flat (xs.set i e) = (flat xs).take (i * sz + j) ++ r ++ (flat xs).drop (i * sz + j + r.length) := by
  obtain ⟨h1, h2⟩ := flat_split h hi
  have hset : flat (xs.set i e) = flat (xs.take i) ++ e.cells ++ flat (xs.drop (i + 1)) := by
    rw [List.set_eq_take_append_cons_drop, if_pos hi]
    simp [flat]
  have hes : (xs[i]).cells.length = sz := h _ (List.getElem_mem hi)
  rw [hset, he, h1]
  generalize flat (xs.take i) = A at *
  generalize flat (xs.drop (i + 1)) = B at *
  generalize (xs[i]).cells = E at *
  have e1 : (A ++ E ++ B).take (i * sz + j) = A ++ E.take j := by
    rw [List.append_assoc, List.take_append, h2, List.take_of_length_le (by omega), List.take_append, show i * sz + j - i * sz = j by omega, show j - E.length = 0 by omega, List.take_zero, List.append_nil]
  have e2 : (A ++ E ++ B).drop (i * sz + j + r.length) = E.drop (j + r.length) ++ B := by
    rw [List.append_assoc, List.drop_append, h2, List.drop_of_length_le (by omega), List.nil_append, List.drop_append, show i * sz + j + r.length - i * sz = j + r.length by omega, show j + r.length - E.length = 0 by omega, List.drop_zero]
  rw [e1, e2]
  simp [List.append_assoc]

theorem okCell_one {sv : SV} {x : Value} (h : SR w S β O sv x) (hc : okCell O sv = true) : x.oneCell' = true := by
  cases sv with
  | p v =>
    have hp := h.p_inv
    cases v <;> simp only [okCell] at hc <;> first | (cases hc; done) | (cases hp <;> rfl)
  | cl f p q => obtain ⟨va, vc, e, _⟩ := h.cl_inv; subst e; rfl
  | bx n i => obtain ⟨e, _⟩ := h.bx_inv (by intro e; simp [okCell, e] at hc); subst e; rfl
  | ar n => obtain ⟨_, _, _, _, e, _⟩ := h.ar_inv (by intro e; simp [okCell, e] at hc); subst e; rfl
  | sub n i j => obtain ⟨_, _, _, _, _, e, _⟩ := h.sub_inv (by intro e; simp [okCell, e] at hc); subst e; rfl
  | el n i j => obtain ⟨_, _, _, e, _⟩ := h.el_inv (by intro e; simp [okCell, e] at hc); subst e; rfl
  | mp n => obtain ⟨e, _⟩ := h.mp_inv (by intro e; simp [okCell, e] at hc); subst e; rfl
  | ag _ => simp [okCell] at hc
  | tp _ => simp [okCell] at hc
  | un => simp [okCell] at hc
  | junk => simp [okCell] at hc
theorem isCell_one {v : PV} {x : Value} (h : PR w S v x) (hc : v.isCell = true) : x.oneCell' = true := by
  cases h <;> first | rfl | (simp [PV.isCell] at hc; done)

theorem Fr.setRow (w : World) (b : Nat) (c : Array Value) {W : Nat → Prop} (h : W b) (hb : bsz (w.setRow b c) b = bsz w b) : Fr w (w.setRow b c) W :=
  ⟨rfl, rfl, rfl, by simp, fun k _ hk => setRow_other w b k c fun e => hk (e ▸ h), fun k _ => by
    by_cases e : k = b
    · rw [e]; exact hb
    · simp only [bsz, setRow_other w b k c e]⟩

theorem toList_getD (c : Array Value) (i : Nat) : c.toList.getD i undef = c.getD i undef := by simp
/-- Cells of a live object's block are written. -/
theorem write_wpN {nx : Next} {x0 : Value} {m : Nat} {ob0 ob : Ob} {c : Array Value} {ty : TypeId} {l : List Value} {off : Nat} (hr : Rel w S β O) (hs : Slots w S β O σ a.tmps) (hm : O m = some ob0) (hlike : likeO ob0 ob) (hh : w.heap[β m]? = some (.cells c ty (0, 0))) (hfit : off + l.length ≤ c.size)
    (hrun : (execOp a.eval o).run P w = .ok nx (w.setRow (β m) (c.toList.take off ++ l ++ c.toList.drop (off + l.length)).toArray))
    (hobj : ∀ w1, w1 = w.setRow (β m) (c.toList.take off ++ l ++ c.toList.drop (off + l.length)).toArray → (∀ {u : SV} {x : Value}, SR w S β O u x → SR w1 S β (setO m (some ob) O) u x) → (∀ (u : PV) x, PR w S u x → PR w1 S u x) →
      w1.heap[β m]? = some (.cells (c.toList.take off ++ l ++ c.toList.drop (off + l.length)).toArray ty (0, 0)) → OR w1 S β (setO m (some ob) O) m ob)
    (hnx : (nx = .skip ∧ x0 = undef ∧ v = .un) ∨ (nx = .value x0 ∧ ∀ w1, SR w1 S β (setO m (some ob) O) v x0)) (hK : WK w S β O (setO m (some ob) O) σ a o v K) : o.wp P a w K Q := by
  have hml : O m ≠ none := by rw [hm]; simp
  have hnew := setRow_heap w (β m) c (c.toList.take off ++ l ++ c.toList.drop (off + l.length)).toArray ty (0, 0) hh
  have hw : ∀ b, b ≠ β m → (w.setRow (β m) (c.toList.take off ++ l ++ c.toList.drop (off + l.length)).toArray).heap[b]? = w.heap[b]? := fun b hb => setRow_other w (β m) b _ hb
  have hsz : (c.toList.take off ++ l ++ c.toList.drop (off + l.length)).toArray.size = c.size := by simp; omega
  have hbs : bsz (w.setRow (β m) (c.toList.take off ++ l ++ c.toList.drop (off + l.length)).toArray) (β m) = bsz w (β m) := by rw [bsz_cells hnew, bsz_cells hh, hsz]
  have hsr : ∀ {u : SV} {x : Value}, SR w S β O u x → SR (w.setRow (β m) (c.toList.take off ++ l ++ c.toList.drop (off + l.length)).toArray) S β (setO m (some ob) O) u x := fun h => h.write hm hlike hw hbs hr
  have hpm : ∀ (u : PV) x, PR w S u x → PR (w.setRow (β m) (c.toList.take off ++ l ++ c.toList.drop (off + l.length)).toArray) S u x := fun u x h => h.mono fun b hb => ⟨hb, hw b fun e => (hr.sep b hb).2 m hml e.symm⟩
  have hfin : K (a.put o.dst x0) (w.setRow (β m) (c.toList.take off ++ l ++ c.toList.drop (off + l.length)).toArray) := by
    refine hK x0 _ S β ⟨Fr.setRow w _ _ ⟨m, hml, rfl⟩ hbs, fun _ h => h, fun _ h => .inl h, fun _ => rfl, fun n hn _ => ⟨n, ?_, rfl⟩⟩ (hr.write hm hlike hw (by simp) hbs (hobj _ rfl hsr hpm hnew)) (fun i => hsr (hs i)) ?_
    · by_cases h : n = m
      · rw [h]; exact hml
      · simpa [setO, h] using hn
    · rcases hnx with ⟨_, h2, h3⟩ | ⟨_, h2⟩
      · subst h3; subst h2; exact .un
      · exact h2 _
  unfold Oper.wp
  rw [hrun]
  rcases hnx with ⟨h1, h2, _⟩ | ⟨h1, _⟩
  · subst h1; subst h2; rw [Oper.upon_skip]; exact hfin
  · subst h1; rw [Oper.upon_value]; exact hfin

theorem flat_put {sz : Nat} {xs vs : List PV} {off : Nat} (h : ∀ x ∈ xs, x.cells.length = sz) (hv : ∀ x ∈ vs, x.cells.length = sz) (hf : off + vs.length ≤ xs.length) :
    flat (putPV xs off vs) = (flat xs).take (off * sz) ++ flat vs ++ (flat xs).drop (off * sz + (flat vs).length) ∧ (∀ x ∈ putPV xs off vs, x.cells.length = sz) ∧ (putPV xs off vs).length = xs.length := by
  rw [putPV_eq _ _ _ hf]
  refine ⟨?_, fun x hx => ?_, seg_length _ _ _ hf⟩
  · rw [flat_append, flat_append, flat_take h, flat_drop h, flat_length hv, Nat.add_mul]
  · simp only [List.mem_append] at hx
    rcases hx with (hx | hx) | hx
    · exact h x (List.mem_of_mem_take hx)
    · exact hv x hx
    · exact h x (List.mem_of_mem_drop hx)

/-- Elements of a live array are written. -/
theorem write_elems {nx : Next} {x0 : Value} {m sz off : Nat} {xs vs : List PV} {c : Array Value} {ty : TypeId} {l : List Value} (hr : Rel w S β O) (hs : Slots w S β O σ a.tmps) (hm : O m = some (.arr sz xs)) (hh : w.heap[β m]? = some (.cells c ty (0, 0)))
    (hf : off + vs.length ≤ xs.length) (hv : ∀ x ∈ vs, x.cells.length = sz) (hl : l.length = (flat vs).length) (hrel : ∀ i (hi : i < (flat vs).length), PR w S (flat vs)[i] (l.getD i undef))
    (hrun : (execOp a.eval o).run P w = .ok nx (w.setRow (β m) (c.toList.take (off * sz) ++ l ++ c.toList.drop (off * sz + l.length)).toArray))
    (hnx : (nx = .skip ∧ x0 = undef ∧ v = .un) ∨ (nx = .value x0 ∧ ∀ w1, SR w1 S β (setO m (some (.arr sz (putPV xs off vs))) O) v x0)) (hK : WK w S β O (setO m (some (.arr sz (putPV xs off vs))) O) σ a o v K) : o.wp P a w K Q := by
  obtain ⟨c', ty', hh', hszs, hlen, hcell⟩ := hr.obj m _ hm
  rw [hh] at hh'; cases hh'
  obtain ⟨h1, h2, h3⟩ := flat_put hszs hv hf
  have hfx := flat_length hszs
  have hfv := flat_length hv
  have hend : off * sz + (flat vs).length ≤ (flat xs).length := by
    rw [hfx, hfv, ← Nat.add_mul]; exact Nat.mul_le_mul_right _ hf
  refine write_wpN (ob := .arr sz (putPV xs off vs)) hr hs hm (by simp [likeO, h3]) hh (by omega) hrun (fun w1 hw1 hsr hpm hnew => ?_) hnx hK
  have hflen : (flat (putPV xs off vs)).length = (flat xs).length := by rw [h1, seg_length _ _ _ hend]
  refine ⟨_, ty, hnew, h2, by rw [hflen]; simp; omega, ?_⟩
  have hseq : Seq (PR w1 S) (flat xs) c.toList := ⟨by simpa using hlen, fun k hk => by rw [toList_getD]; exact hpm _ _ (hcell k hk)⟩
  have hseq2 : Seq (PR w1 S) (flat vs) l := ⟨by omega, fun k hk => hpm _ _ (hrel k hk)⟩
  have := (hseq.seg hseq2 hl.symm (off := off * sz) hend).2
  intro k hk
  have hk2 : k < (List.take (off * sz) (flat xs) ++ flat vs ++ List.drop (off * sz + (flat vs).length) (flat xs)).length := by rw [← h1]; exact hk
  have h5 := this k hk2
  have e4 : (flat (putPV xs off vs))[k] = (List.take (off * sz) (flat xs) ++ flat vs ++ List.drop (off * sz + (flat vs).length) (flat xs))[k] := by congr 1
  rw [e4, ← toList_getD]
  exact h5

/-- Cells of a live object's block are written. -/
theorem write_wp {m : Nat} {ob0 ob : Ob} {c : Array Value} {ty : TypeId} {l : List Value} {off : Nat} (hr : Rel w S β O) (hs : Slots w S β O σ a.tmps) (hm : O m = some ob0) (hlike : likeO ob0 ob) (hh : w.heap[β m]? = some (.cells c ty (0, 0))) (hfit : off + l.length ≤ c.size)
    (hrun : (execOp a.eval o).run P w = .ok .skip (w.setRow (β m) (c.toList.take off ++ l ++ c.toList.drop (off + l.length)).toArray))
    (hobj : ∀ w1, w1 = w.setRow (β m) (c.toList.take off ++ l ++ c.toList.drop (off + l.length)).toArray → (∀ {u : SV} {x : Value}, SR w S β O u x → SR w1 S β (setO m (some ob) O) u x) → (∀ (u : PV) x, PR w S u x → PR w1 S u x) →
      w1.heap[β m]? = some (.cells (c.toList.take off ++ l ++ c.toList.drop (off + l.length)).toArray ty (0, 0)) → OR w1 S β (setO m (some ob) O) m ob)
    (hK : WK w S β O (setO m (some ob) O) σ a o .un K) : o.wp P a w K Q := by
  have hml : O m ≠ none := by rw [hm]; simp
  have hnew := setRow_heap w (β m) c (c.toList.take off ++ l ++ c.toList.drop (off + l.length)).toArray ty (0, 0) hh
  have hw : ∀ b, b ≠ β m → (w.setRow (β m) (c.toList.take off ++ l ++ c.toList.drop (off + l.length)).toArray).heap[b]? = w.heap[b]? := fun b hb => setRow_other w (β m) b _ hb
  have hsz : (c.toList.take off ++ l ++ c.toList.drop (off + l.length)).toArray.size = c.size := by simp; omega
  have hbs : bsz (w.setRow (β m) (c.toList.take off ++ l ++ c.toList.drop (off + l.length)).toArray) (β m) = bsz w (β m) := by rw [bsz_cells hnew, bsz_cells hh, hsz]
  have hsr : ∀ {u : SV} {x : Value}, SR w S β O u x → SR (w.setRow (β m) (c.toList.take off ++ l ++ c.toList.drop (off + l.length)).toArray) S β (setO m (some ob) O) u x := fun h => h.write hm hlike hw hbs hr
  have hpm : ∀ (u : PV) x, PR w S u x → PR (w.setRow (β m) (c.toList.take off ++ l ++ c.toList.drop (off + l.length)).toArray) S u x := fun u x h => h.mono fun b hb => ⟨hb, hw b fun e => (hr.sep b hb).2 m hml e.symm⟩
  unfold Oper.wp
  rw [hrun, Oper.upon_skip]
  refine hK undef _ S β ⟨Fr.setRow w _ _ ⟨m, hml, rfl⟩ hbs, fun _ h => h, fun _ h => .inl h, fun _ => rfl, fun n hn _ => ⟨n, ?_, rfl⟩⟩ (hr.write hm hlike hw (by simp) hbs (hobj _ rfl hsr hpm hnew)) (fun i => hsr (hs i)) .un
  by_cases h : n = m
  · rw [h]; exact hml
  · simpa [setO, h] using hn

theorem run_store_row {t : TypeId} {x y : Operand} {b off n : Nat} {c : Array Value} {ty : TypeId} (ho : o.op = .store t x y) (hn : tySz P t = some n) (hx : a.eval x = .pointer (some ⟨b, off, none⟩)) (hsz : (a.eval y).cells.size = n) (hh : w.heap[b]? = some (.cells c ty (0, 0)))
    (hfit : off + n ≤ c.size) (h1 : ∀ u ∈ (a.eval y).cells.toList, u.oneCell' = true) :
    (execOp a.eval o).run P w = .ok .skip (w.setRow b (c.toList.take off ++ (a.eval y).cells.toList ++ c.toList.drop (off + (a.eval y).cells.toList.length)).toArray) := by
  have hst := run_storeCells_at P b off ty (a.eval y).cells.toList 0 c w hh (by simp; omega) h1
  simp only [Nat.add_zero] at hst
  simp [execOp, ho, Instr.storeAt, Instr.sureAddr, hx, storeVar, run_sz hn, hsz]
  simp at hst
  rw [hst]
  simp [hsz]


theorem sim_store {t : TypeId} {x y : Operand} {x' y' : Od} {n : Nat} (hr : Rel w S β O) (hs : Slots w S β O σ a.tmps) (ho : o.op = .store t x y) (hn : tySz P t = some n) (hx : odOf x = some x') (hy : odOf y = some y')
    (hd : stepW Γ o.dst σ O (.store n x' y') = some (v, σ', O')) (hK : WK w S β O O' σ' a o v K) : o.wp P a w K Q := by
  have rx := od_rel hs hx
  have ry := od_rel hs hy
  simp only [stepW] at hd
  split at hd
  · rename_i m off hb
    rw [hb] at rx
    split at hd
    · rename_i cs hm
      split at hd
      · rename_i vs hvs
        split at hd
        · rename_i hcond
          obtain ⟨hl, hfit, hok⟩ := hcond
          injection hd with hd; injection hd with e1 e2; injection e2 with e2 e3; subst e1; subst e2; subst e3
          obtain ⟨hax, _⟩ := rx.bx_inv (by rw [hm]; simp)
          obtain ⟨c, ty, hh, hsz, hcell⟩ := hr.obj m _ hm
          obtain ⟨hv1, hv2⟩ := cellsA_rel ry hvs
          have hlen : (a.eval y).cells.toList.length = vs.length := by simpa using hv1
          have hone : ∀ u ∈ (a.eval y).cells.toList, u.oneCell' = true := fun u hu => by
            obtain ⟨i, hi, hiu⟩ := List.getElem_of_mem hu
            have hi' : i < vs.length := by omega
            have := hv2 i hi'
            have hlt : i < (a.eval y).cells.size := by omega
            have e : (a.eval y).cells.getD i undef = u := by rw [← hiu]; simp [Array.getElem?_eq_getElem hlt]
            rw [e] at this
            exact okCell_one this (List.all_eq_true.1 hok _ (List.getElem_mem hi'))
          have hrun := run_store_row ho hn hax (by omega) hh (by omega) hone
          refine write_wp (ob := .box (putCells cs off vs)) hr hs hm (by simp [likeO]) hh (by omega) hrun (fun w1 hw1 hsr hpm hnew => ?_) hK
          refine ⟨_, ty, hnew, by simp [putCells_length]; omega, ?_⟩
          have hseq : Seq (SR w1 S β (setO m (some (.box (putCells cs off vs))) O)) cs c.toList := ⟨by simp; omega, fun i hi => by rw [toList_getD]; exact hsr (hcell i hi)⟩
          have hseq2 : Seq (SR w1 S β (setO m (some (.box (putCells cs off vs))) O)) vs (a.eval y).cells.toList := ⟨by omega, fun i hi => by rw [toList_getD]; exact hsr (hv2 i hi)⟩
          have := (hseq.seg hseq2 hlen.symm (off := off) (by omega)).2
          intro i hi
          have hi2 : i < (List.take off cs ++ vs ++ List.drop (off + vs.length) cs).length := by rw [← putCells_eq cs off vs (by omega)]; exact hi
          have h3 := this i hi2
          have e4 : (putCells cs off vs)[i] = (List.take off cs ++ vs ++ List.drop (off + vs.length) cs)[i] := by congr 1; exact putCells_eq cs off vs (by omega)
          rw [e4]
          rw [← toList_getD]
          exact h3
        · cases hd
      · cases hd
    · cases hd
  · rename_i m i j hb
    rw [hb] at rx
    split at hd
    · rename_i sz xs hm
      split at hd
      · rename_i e0 he0
        obtain ⟨hix, hee⟩ := List.getElem?_eq_some_iff.1 he0
        obtain ⟨_, _, hm', hax, _⟩ := rx.el_inv (by rw [hm]; simp)
        rw [hm] at hm'; cases hm'
        obtain ⟨c, ty, hh, hszs, hlen, hcell⟩ := hr.obj m _ hm
        have hfl := flat_length hszs
        have hes : e0.cells.length = sz := by rw [← hee]; exact hszs _ (List.getElem_mem hix)
        have hend : i * sz + sz ≤ (flat xs).length := by
          rw [hfl]
          calc i * sz + sz = (i + 1) * sz := by rw [Nat.succ_mul]
            _ ≤ xs.length * sz := Nat.mul_le_mul_right _ (by omega)
        have main : ∀ (u e1 : PV), PR w S u (a.eval y) → u.cells.length = n → (∀ q ∈ u.cells, q.isCell = true) → j + n ≤ sz → e1.cells = e0.cells.take j ++ u.cells ++ e0.cells.drop (j + u.cells.length) → v = .un → σ' = σ → O' = setO m (some (.arr sz (xs.set i e1))) O → o.wp P a w K Q := by
          intro u e1 hu hun hcl hjn he1 hv hσ hO
          subst hv; subst hσ; subst hO
          obtain ⟨hv1, hv2⟩ := hu.cells
          have hlen2 : (a.eval y).cells.toList.length = u.cells.length := by simpa using hv1
          have hone : ∀ q ∈ (a.eval y).cells.toList, q.oneCell' = true := fun q hq => by
            obtain ⟨k, hk, hkq⟩ := List.getElem_of_mem hq
            have hk' : k < u.cells.length := by omega
            have := hv2 k hk'
            have hlt : k < (a.eval y).cells.size := by omega
            have e : (a.eval y).cells.getD k undef = q := by rw [← hkq]; simp [Array.getElem?_eq_getElem hlt]
            rw [e] at this
            exact isCell_one this (hcl _ (List.getElem_mem hk'))
          have hrun := run_store_row ho hn hax (by omega) hh (by omega) hone
          have hfs := flat_set hszs hix (e := e1) (r := u.cells) (j := j) (by rw [hee]; exact he1) (by omega)
          have hcells1 : e1.cells.length = sz := by rw [he1]; simp; omega
          refine write_wp (ob := .arr sz (xs.set i e1)) hr hs hm (by simp [likeO]) hh (by omega) hrun (fun w1 hw1 hsr hpm hnew => ?_) hK
          have hflen : (flat (xs.set i e1)).length = (flat xs).length := by rw [hfs, seg_length _ _ _ (by omega)]
          refine ⟨_, ty, hnew, fun q hq => ?_, by rw [hflen]; simp; omega, ?_⟩
          · rcases List.mem_or_eq_of_mem_set hq with h | h
            · exact hszs q h
            · rw [h]; exact hcells1
          · have hseq : Seq (PR w1 S) (flat xs) c.toList := ⟨by simpa using hlen, fun k hk => by rw [toList_getD]; exact hpm _ _ (hcell k hk)⟩
            have hseq2 : Seq (PR w1 S) u.cells (a.eval y).cells.toList := ⟨by omega, fun k hk => by rw [toList_getD]; exact hpm _ _ (hv2 k hk)⟩
            have := (hseq.seg hseq2 hlen2.symm (off := i * sz + j) (by omega)).2
            intro k hk
            have hk2 : k < (List.take (i * sz + j) (flat xs) ++ u.cells ++ List.drop (i * sz + j + u.cells.length) (flat xs)).length := by rw [← hfs]; exact hk
            have h3 := this k hk2
            have e4 : (flat (xs.set i e1))[k] = (List.take (i * sz + j) (flat xs) ++ u.cells ++ List.drop (i * sz + j + u.cells.length) (flat xs))[k] := by congr 1
            rw [e4, ← toList_getD]
            exact h3
        split at hd
        · rename_i hjn
          split at hd
          · rename_i u hu
            split at hd
            · rename_i hcl
              injection hd with hd; injection hd with e1 e2; injection e2 with e2 e3
              obtain ⟨hp, hl⟩ := elemOf_rel ry hu
              exact main u u hp (by omega) (List.all_eq_true.1 hcl) (by omega) (by rw [hjn.1]; simp; omega) e1.symm e2.symm e3.symm
            · cases hd
          · cases hd
        · split at hd
          · rename_i u hu
            split at hd
            · rename_i hcond
              injection hd with hd; injection hd with e1 e2; injection e2 with e2 e3
              obtain ⟨hp, hl⟩ := elemOf_rel ry hu
              exact main u (.agg (putPV e0.cells j u.cells)) hp hl (List.all_eq_true.1 hcond.2) (by omega) (show putPV e0.cells j u.cells = _ from putPV_eq _ _ _ (by omega)) e1.symm e2.symm e3.symm
            · split at hd
              · rename_i hcond
                obtain ⟨hs1, hj0, hin, hcl⟩ := hcond
                injection hd with hd; injection hd with e1 e2; injection e2 with e2 e3
                obtain ⟨hp, hl⟩ := elemOf_rel ry hu
                subst hs1; subst hj0; subst e1; subst e2; subst e3
                obtain ⟨hv1, hv2⟩ := hp.cells
                obtain ⟨f1, f2⟩ := flat_cells hcl
                have hone : ∀ q ∈ (a.eval y).cells.toList, q.oneCell' = true := fun q hq => by
                  obtain ⟨k, hk, hkq⟩ := List.getElem_of_mem hq
                  have hk' : k < u.cells.length := by simp at hk; omega
                  have := hv2 k hk'
                  have hlt : k < (a.eval y).cells.size := by omega
                  have e : (a.eval y).cells.getD k undef = q := by rw [← hkq]; simp [Array.getElem?_eq_getElem hlt]
                  rw [e] at this
                  exact isCell_one this (List.all_eq_true.1 hcl _ (List.getElem_mem hk'))
                have hrun := run_store_row ho hn hax (by omega) hh (by omega) hone
                refine write_elems (vs := u.cells) (off := i) (l := (a.eval y).cells.toList) (x0 := undef) hr hs hm hh (by omega) f2 (by rw [f1]; simpa using hv1) (fun k hk => ?_) (by simpa using hrun) (.inl ⟨rfl, rfl, rfl⟩) hK
                have hk' : k < u.cells.length := by rw [← f1]; exact hk
                have e4 : (flat u.cells)[k] = u.cells[k] := by congr 1
                rw [e4, toList_getD]
                exact hv2 k hk'
              · cases hd
          · cases hd
      · cases hd
    · cases hd
  · cases hd
end
end Go.Proofs.YtpobnchalcokoaaDoor.Pam
