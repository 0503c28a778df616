/- A part of the proof that stands in this folder: a small machine whose steps are shown to be the steps of the model, or walks of functions by it. No condition of its own. -/
import Derived.Test.YtpobnchalcokoaaDoorPamC1
set_option linter.unusedVariables false
set_option linter.unusedSimpArgs false
namespace Go.Proofs.YtpobnchalcokoaaDoor.Pam
open Go

/-- The operation yields a value that the machine's value stands for, and touches nothing. -/
def Val (P : Program) (w : World) (S : Nat → Prop) (β : Nat → Nat) (O : Objs) (a : Act) (o : Oper) (v : SV) : Prop :=
  ∃ x, (execOp a.eval o).run P w = .ok (.value x) w ∧ SR w S β O v x

section
variable {P : Program} {w : World} {S : Nat → Prop} {β : Nat → Nat} {O : Objs} {σ : Env} {a : Act} {o : Oper} {v : SV}

theorem sim_mv {x : Operand} {y : Od} (hs : Slots w S β O σ a.tmps) (ho : o.op = .move x ∨ o.op = .assign x) (hy : odOf x = some y) (hd : some (ev σ y) = some v) : Val P w S β O a o v := by
  injection hd with hd; subst hd
  refine ⟨a.eval x, ?_, od_rel hs hy⟩
  rcases ho with h | h <;> simp [execOp, h]

theorem sim_pick {c x y : Operand} {c' x' y' : Od} (hs : Slots w S β O σ a.tmps) (ho : o.op = .pick c x y) (hc : odOf c = some c') (hx : odOf x = some x') (hy : odOf y = some y') {Γ : Gam}
    (hd : stepD Γ O (ev σ) (.pick c' x' y') = some v) : Val P w S β O a o v := by
  simp only [stepD] at hd
  split at hd
  · rename_i t ht
    injection hd with hd; subst hd
    have hb := od_rel hs hc; rw [ht] at hb
    refine ⟨if t then a.eval x else a.eval y, by simp [execOp, ho, hb.bool_inv, asBool], ?_⟩
    cases t
    · exact od_rel hs hy
    · exact od_rel hs hx
  · cases hd

theorem agg_row {cs : List PV} {n : Nat} {vals : Nat → Value} (hn : n ≤ cs.length) (h : ∀ i (hi : i < cs.length), PR w S cs[i] (vals i)) : PR w S (.agg (cs.take n)) (.agg ((List.range n).map vals).toArray) := by
  refine .agg _ _ (by simp; omega) fun i hi => ?_
  have hi' : i < n := by simp at hi; omega
  have := h i (by omega)
  simpa [hi'] using this

theorem sim_load {t : TypeId} {x : Operand} {ag : Bool} {n : Nat} {y : Od} (hr : Rel w S β O) (hs : Slots w S β O σ a.tmps) (ho : o.op = .load t x) (hag : tyAg P t = some ag) (hn : tySz P t = some n) (hy : odOf x = some y)
    (hd : loadA O ag n (ev σ y) = some v) : Val P w S β O a o v := by
  have hx := od_rel hs hy
  have key : ∀ (b off : Nat), a.eval x = .pointer (some ⟨b, off, none⟩) →
      (execOp a.eval o).run P w = ((if ag then ((loadCells ⟨b, off, none⟩ n).run P w).andThen fun c w' => .ok (.agg c) w' else (load ⟨b, off, none⟩).run P w) : Result Value).andThen fun u w' => .ok (Next.value u) w' := by
    intro b off hb
    simp only [execOp, ho, Instr.loadAt, Instr.sureAddr, hb, loadVar, Sem.run_bind, Sem.run_pure, Result.andThen_ok, run_ag hag]
    cases ag <;> simp [run_sz hn]
  generalize hsv : ev σ y = sv at hd hx
  unfold loadA at hd
  split at hd
  · -- stable memory
    rename_i cs
    have hp := hx.p_inv
    generalize hax : a.eval x = ax at hp
    cases hp with
    | cp _ b off vals hS hc h =>
      cases ag with
      | true =>
        simp only [if_true] at hd
        split at hd
        · rename_i hle
          injection hd with hd; subst hd
          refine ⟨_, by rw [key b off hax]; simp only [if_true, run_row P b off n vals fun i hi => hc i (by omega), Result.andThen_ok]; rfl, ?_⟩
          exact .p _ _ (agg_row hle h)
        · cases hd
      | false =>
        simp only [Bool.false_eq_true, if_false] at hd
        cases hcs : cs[0]? with
        | none => simp [hcs] at hd
        | some c =>
          simp [hcs] at hd; subst hd
          obtain ⟨hlt, hc0⟩ := List.getElem?_eq_some_iff.1 hcs
          have h0 := hc 0 hlt
          refine ⟨vals 0, by rw [key b off hax]; simp [show w.cell? ⟨b, off, none⟩ = some (vals 0) from h0], ?_⟩
          have := h 0 hlt
          rw [hc0] at this
          exact .p _ _ this
  · -- a box
    rename_i m off
    split at hd
    · rename_i cs hm
      obtain ⟨hax, cs', hm'⟩ := hx.bx_inv (by rw [hm]; simp)
      obtain ⟨c, ty, hh, hsz, hcell⟩ := hr.obj m _ hm
      have hcl : ∀ i, i < cs.length → w.cell? ⟨β m, i, none⟩ = some (c.getD i undef) := fun i hi => cell_of hh i (by omega)
      cases ag with
      | true =>
        simp only [if_true] at hd
        split at hd
        · rename_i hle
          injection hd with hd; subst hd
          refine ⟨_, by rw [key _ _ hax]; simp only [if_true, run_row P (β m) off n (fun i => c.getD (off + i) undef) fun i hi => hcl _ (by omega), Result.andThen_ok]; rfl, ?_⟩
          refine .ag _ _ (by simp; omega) fun i hi => ?_
          have hi' : i < n := by simp at hi; omega
          have := hcell (off + i) (by omega)
          simpa [hi', Nat.add_comm] using this
        · cases hd
      | false =>
        simp only [Bool.false_eq_true, if_false] at hd
        obtain ⟨hlt, hc0⟩ := List.getElem?_eq_some_iff.1 hd
        refine ⟨c.getD off undef, by rw [key _ _ hax]; simp [hcl off hlt], ?_⟩
        have := hcell off hlt
        rw [hc0] at this
        exact this
    · cases hd
  · -- an element
    rename_i m i j
    split at hd
    · rename_i s xs hm
      split at hd
      · rename_i e he
        obtain ⟨hie, hee⟩ := List.getElem?_eq_some_iff.1 he
        obtain ⟨sz, xs', hm', hax, hi⟩ := hx.el_inv (by rw [hm]; simp)
        rw [hm] at hm'; cases hm'
        obtain ⟨c, ty, hh, hsz, hlen, hcell⟩ := hr.obj m _ hm
        have hes : e.cells.length = s := by rw [← hee]; exact hsz _ (List.getElem_mem hie)
        have hfl := flat_length hsz
        have hin : ∀ k, k < s → i * s + k < (flat xs).length := fun k hk => by
          rw [hfl]
          calc i * s + k < i * s + s := by omega
            _ = (i + 1) * s := by rw [Nat.succ_mul]
            _ ≤ xs.length * s := Nat.mul_le_mul_right _ (by omega)
        have hcl : ∀ k, k < s → w.cell? ⟨β m, i * s + k, none⟩ = some (c.getD (i * s + k) undef) := fun k hk => cell_of hh _ (by have := hin k hk; omega)
        have hrel : ∀ k (hk : k < e.cells.length), PR w S e.cells[k] (c.getD (i * s + k) undef) := fun k hk => by
          have h1 := hcell (i * s + k) (hin k (by omega))
          rw [flat_get hsz i k hie (by omega)] at h1
          simpa [hee] using h1
        cases ag with
        | true =>
          simp only [if_true] at hd
          split at hd
          · rename_i hle
            injection hd with hd; subst hd
            refine ⟨_, by rw [key _ _ hax]; simp only [if_true, run_row P (β m) (i * s + j) n (fun k => c.getD (i * s + (j + k)) undef) fun k hk => by (have := hcl (j + k) (by omega)); rw [← Nat.add_assoc] at this; rw [this, Nat.add_assoc], Result.andThen_ok]; rfl, ?_⟩
            refine .p _ _ (.agg _ _ (by simp; omega) fun k hk => ?_)
            have hk' : k < n := by simp at hk; omega
            have := hrel (j + k) (by omega)
            simpa [hk'] using this
          · split at hd
            · rename_i hc1
              obtain ⟨rfl, rfl, hc3⟩ := hc1
              injection hd with hd; subst hd
              have hfl1 : (flat xs).length = xs.length := by rw [hfl, Nat.mul_one]
              refine ⟨_, by rw [key _ _ hax]; simp only [if_true, run_row P (β m) (i * 1 + 0) n (fun k => c.getD (i + k) undef) fun k hk => by rw [Nat.mul_one, Nat.add_zero]; exact cell_of hh _ (by omega), Result.andThen_ok]; rfl, ?_⟩
              refine .p _ _ (.agg _ _ (by simp; omega) fun k hk => ?_)
              have hk' : k < n := by simp at hk; omega
              have := hcell (i + k) (by omega)
              simpa [hk'] using this
            · cases hd
        | false =>
          simp only [Bool.false_eq_true, if_false] at hd
          cases hcs : e.cells[j]? with
          | none => simp [hcs] at hd
          | some u =>
            simp [hcs] at hd; subst hd
            obtain ⟨hlt, hc0⟩ := List.getElem?_eq_some_iff.1 hcs
            refine ⟨c.getD (i * s + j) undef, by rw [key _ _ hax]; simp [hcl j (by omega)], ?_⟩
            have := hrel j hlt
            rw [hc0] at this
            exact .p _ _ this
      · cases hd
    · cases hd
  · cases hd

theorem sim_not {x : Operand} {y : Od} {t : TypeId} (hs : Slots w S β O σ a.tmps) (ho : o.op = .unOp .not t x) (hy : odOf x = some y) {Γ : Gam} (hd : stepD Γ O (ev σ) (.not y) = some v) : Val P w S β O a o v := by
  simp only [stepD] at hd
  split at hd
  · rename_i b hb
    injection hd with hd; subst hd
    have h := od_rel hs hy; rw [hb] at h
    exact ⟨.bool !b, by simp [execOp, ho, h.bool_inv, Op.unary], .p _ _ (.bool _)⟩
  · cases hd

theorem sim_neg {x : Operand} {y : Od} {t : TypeId} (hs : Slots w S β O σ a.tmps) (ho : o.op = .unOp .neg t x) (hy : odOf x = some y) {Γ : Gam} (hd : stepD Γ O (ev σ) (.neg y) = some v) : Val P w S β O a o v := by
  simp only [stepD] at hd
  split at hd
  · rename_i k n hb
    injection hd with hd; subst hd
    have h := od_rel hs hy; rw [hb] at h
    exact ⟨.int k (k.wrap (-n)), by simp [execOp, ho, h.int_inv, Op.unary, Op.intArith], .p _ _ (.int _ _)⟩
  · cases hd

theorem sim_conv {x : Operand} {y : Od} {s t : TypeId} {k k' : IntKind} (hs : Slots w S β O σ a.tmps) (ho : o.op = .convert s t x) (h1 : P.underlying s = some (.int k')) (h2 : P.underlying t = some (.int k)) (hy : odOf x = some y) {Γ : Gam}
    (hd : stepD Γ O (ev σ) (.conv k y) = some v) : Val P w S β O a o v := by
  simp only [stepD] at hd
  split at hd
  · rename_i j n hb
    injection hd with hd; subst hd
    have h := od_rel hs hy; rw [hb] at h
    exact ⟨.int k (k.wrap n), by simp [execOp, ho, h.int_inv, convert, run_underlying h1, run_underlying h2, Conv.intToInt], .p _ _ (.int _ _)⟩
  · cases hd

theorem sim_mkfn {f : FuncId} {xs ys : Array Operand} {xs' ys' : List Od} (hs : Slots w S β O σ a.tmps) (ho : o.op = .makeFunc (.func f) xs ys) (h1 : odsOf xs.toList = some xs') (h2 : odsOf ys.toList = some ys') {Γ : Gam}
    (hd : stepD Γ O (ev σ) (.mkfn f xs' ys') = some v) : Val P w S β O a o v := by
  simp only [stepD] at hd
  injection hd with hd; subst hd
  obtain ⟨l1, r1⟩ := ods_rel hs h1
  obtain ⟨l2, r2⟩ := ods_rel hs h2
  refine ⟨.func (.func f) (xs.map a.eval) (ys.map a.eval), by simp [execOp, ho, Instr.makeFunc], .cl _ _ _ _ _ (by simp at l1 ⊢; omega) (by simp at l2 ⊢; omega) (fun i hi => ?_) (fun i hi => ?_)⟩
  · have hi' : i < xs'.length := by simpa using hi
    have hj : i < xs.size := by simp at l1; omega
    have := r1 i hi' (by simpa using hj)
    simpa [Array.getElem?_eq_getElem hj] using this
  · have hi' : i < ys'.length := by simpa using hi
    have hj : i < ys.size := by simp at l2; omega
    have := r2 i hi' (by simpa using hj)
    simpa [Array.getElem?_eq_getElem hj] using this

theorem sim_extract {x : Operand} {y : Od} {i : Nat} (hs : Slots w S β O σ a.tmps) (ho : o.op = .extract x i) (hy : odOf x = some y) {Γ : Gam} (hd : stepD Γ O (ev σ) (.extract y i) = some v) : Val P w S β O a o v := by
  simp only [stepD] at hd
  split at hd
  · rename_i cs hb
    have h := od_rel hs hy; rw [hb] at h
    obtain ⟨vs, hv, hn, hh⟩ := h.tp_inv
    obtain ⟨hlt, hc0⟩ := List.getElem?_eq_some_iff.1 hd
    have hi : i < vs.size := by omega
    refine ⟨vs[i], by simp [execOp, ho, hv, Instr.extract, Array.getElem?_eq_getElem hi], ?_⟩
    have := hh i hlt
    rw [hc0] at this
    simpa [Array.getElem?_eq_getElem hi] using this
  · cases hd

theorem sim_nilck {x : Operand} {y : Od} (hs : Slots w S β O σ a.tmps) (ho : o.op = .nilCheck x) (hy : odOf x = some y) {Γ : Gam} (hd : stepD Γ O (ev σ) (.nilck y) = some v) : Val P w S β O a o v := by
  have h := od_rel hs hy
  have hval : ∀ u, a.eval x = u → (match u with | .pointer none | .nilIface | .nilFunc => False | .func (.method _) _ _ => False | _ => True) → (execOp a.eval o).run P w = .ok (.value u) w := by
    intro u hu hne
    simp only [execOp, ho, hu]
    split <;> first | (simp at hne; done) | rfl | skip
    all_goals (simp_all)
  simp only [stepD] at hd
  split at hd
  · rename_i n off hb
    split at hd
    · rename_i hl
      injection hd with hd; subst hd
      rw [hb] at h
      obtain ⟨he, _⟩ := h.bx_inv (by intro e; simp [e] at hl)
      exact ⟨_, hval _ he trivial, by rw [← he]; exact h⟩
    · cases hd
  · rename_i cs hb
    injection hd with hd; subst hd
    rw [hb] at h
    have hp := h.p_inv
    generalize hax : a.eval x = ax at hp
    cases hp with
    | cp _ b off vals hS hc hh => exact ⟨_, hval _ hax trivial, .p _ _ (.cp _ b off vals hS hc hh)⟩
  · rename_i f p q hb
    injection hd with hd; subst hd
    rw [hb] at h
    have hp := h.p_inv
    generalize hax : a.eval x = ax at hp
    cases hp with
    | fn _ _ _ va vc h1 h2 h3 h4 => exact ⟨_, hval _ hax trivial, .p _ _ (.fn _ _ _ va vc h1 h2 h3 h4)⟩
  · rename_i f p q hb
    injection hd with hd; subst hd
    rw [hb] at h
    obtain ⟨va, vc, he, h1, h2, h3, h4⟩ := h.cl_inv
    exact ⟨_, hval _ he trivial, .cl _ _ _ va vc h1 h2 h3 h4⟩
  · cases hd

theorem sim_fa {t : TypeId} {x : Operand} {y : Od} {fi n : Nat} {fs : Array Field} {f : Field} (hs : Slots w S β O σ a.tmps) (ho : o.op = .fieldAddr t x fi) (ht : P.underlying t = some (.struct fs)) (hf : fs[fi]? = some f)
    (hn : tySz P f.type = some n) (h0 : n ≠ 0) (hy : odOf x = some y) {Γ : Gam} (hd : stepD Γ O (ev σ) (.fa f.offset y) = some v) : Val P w S β O a o v := by
  have h := od_rel hs hy
  have key : ∀ b off, a.eval x = .pointer (some ⟨b, off, none⟩) → (execOp a.eval o).run P w = .ok (.value (.pointer (some ⟨b, off + f.offset, none⟩))) w := by
    intro b off hb
    simp [execOp, ho, Instr.fieldAt, run_underlying ht, hf, Instr.sureAddr, hb, fieldPlace, run_sz hn, h0, Addr.add_lit]
  simp only [stepD] at hd
  split at hd
  · rename_i m off hb
    split at hd
    · rename_i hl
      injection hd with hd; subst hd
      rw [hb] at h
      obtain ⟨he, cs, hm⟩ := h.bx_inv (by intro e; simp [e] at hl)
      exact ⟨_, key _ _ he, .bx m _ cs hm⟩
    · cases hd
  · rename_i cs hb
    rw [hb] at h
    split at hd
    · rename_i hle
      injection hd with hd; subst hd
      have hp := h.p_inv
      generalize hax : a.eval x = ax at hp
      cases hp with
      | cp _ b off vals hS hc hh =>
        refine ⟨_, key _ _ hax, .p _ _ (.cp _ b _ (fun i => vals (f.offset + i)) hS (fun i hi => ?_) (fun i hi => ?_))⟩
        · rw [Nat.add_assoc]; exact hc _ (by simp at hi; omega)
        · have := hh (f.offset + i) (by simp at hi; omega)
          simpa using this
    · cases hd
  · rename_i m i j hb
    split at hd
    · rename_i hl
      injection hd with hd; subst hd
      rw [hb] at h
      obtain ⟨sz, xs, hm, he, hi⟩ := h.el_inv (by intro e; simp [e] at hl)
      exact ⟨_, key _ _ he, by rw [Nat.add_assoc]; exact .el m sz i _ xs hm hi⟩
    · cases hd
  · cases hd
end
end Go.Proofs.YtpobnchalcokoaaDoor.Pam
