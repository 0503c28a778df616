/- A part of the proof that stands in this folder: a small machine whose steps are shown to be the steps of the model, or walks of functions by it. No condition of its own. -/
import Derived.Test.YtpobnchalcokoaaDoorPamG
import Derived.MapKept
set_option linter.unusedVariables false
set_option linter.unusedSimpArgs false
namespace Go.Proofs.YtpobnchalcokoaaDoor.Pam
open Go

section
variable {P : Program} {w w' w1 : World} {S S' S2 : Nat → Prop} {β β' : Nat → Nat} {O O' : Objs} {σ σ' : Env} {a : Act} {o : Oper} {v : SV} {ann : Nat → Option Ann} {Γ : Gam}

/-- The entries behind a map. -/
theorem esOf_val {sv : SV} {x : Value} {es : List (PV × PV)} (hr : Rel w S β O) (h : SR w S β O sv x) (he : esOf O sv = some es) : (x = .map none ∧ es = []) ∨ ∃ r en ck, x = .map (some r) ∧ w.heap[r]? = some (.map en ck) ∧ en.toList.length = es.length ∧
    (∀ j (hj : j < es.length), PR w S es[j].1 (en.toList[j]?.getD default).key) ∧ ∀ j (hj : j < es.length), PR w S es[j].2 (en.toList[j]?.getD default).val := by
  have conv : ∀ (en : Array MapEntry) j, en.toList[j]?.getD default = en.getD j default := fun en j => by
    rw [Array.getElem?_toList]
    by_cases hj : j < en.size
    · simp [hj]
    · simp [hj]
  unfold esOf at he
  split at he
  · injection he with he; subst he
    have hp := h.p_inv
    generalize x = y at hp
    cases hp with
    | mapv _ r ck en hS hh hn hk hv => exact .inr ⟨r, en, ck, rfl, hh, by simpa using hn, fun j hj => by rw [conv]; exact hk j hj, fun j hj => by rw [conv]; exact hv j hj⟩
  · injection he with he; subst he
    have hp := h.p_inv
    generalize x = y at hp
    cases hp
    exact .inl ⟨rfl, rfl⟩
  · rename_i n
    split at he
    · rename_i es' hm
      injection he with he; subst he
      obtain ⟨hx, _⟩ := h.mp_inv (by rw [hm]; simp)
      obtain ⟨en, ck, hh, hn, hk, hv⟩ := hr.obj n _ hm
      exact .inr ⟨β n, en, ck, hx, hh, by simpa using hn, fun j hj => by rw [conv]; exact hk j hj, fun j hj => by rw [conv]; exact hv j hj⟩
    · cases he
  · cases he

theorem sim_lookup {t kt e : TypeId} {m k : Operand} {m' k' : Od} {ok : Bool} {z : PV} {kn : Option Nat} (hr : Rel w S β O) (hs : Slots w S β O σ a.tmps) (ho : o.op = .lookup t m k ok) (ht : P.underlying t = some (.map kt e)) (hz : tyZero P e = some z)
    (hm : odOf m = some m') (hk : odOf k = some k') (hkt : keyTy P kt = some kn) {Γ : Gam} (hd : stepD Γ O (ev σ) (.lookup z ok kn m' k') = some v) : Val P w S β O a o v := by
  have rm := od_rel hs hm
  have rk := od_rel hs hk
  simp only [stepD, lookA] at hd
  split at hd
  · rename_i key es hkey hes
    split at hd
    · rename_i hok
      have hzr := run_zero (w := w) hz
      obtain ⟨zv, hzr, hzp⟩ := hzr
      rw [lookAt_look key es 0] at hd
      cases hl : lookAt key es 0 with
      | none => simp [hl] at hd
      | some r =>
        have main : ∃ L : List MapEntry, L.length = es.length ∧ (∀ j (hj : j < es.length), PR w S es[j].1 (L[j]?.getD default).key) ∧ (∀ j (hj : j < es.length), PR w S es[j].2 (L[j]?.getD default).val) ∧
            ((∀ em, (Instr.checkKey em 10000 kt (a.eval k)).run P w = .ok () w) → ∀ zz, (Instr.findKey kt (a.eval k) L).run P w = .ok zz w →
              (zz = none → (execOp a.eval o).run P w = .ok (.value (if ok then .tuple #[zv, .bool false] else zv)) w) ∧ ∀ j u, zz = some (j, u) → (execOp a.eval o).run P w = .ok (.value (if ok then .tuple #[u, .bool true] else u)) w) := by
          rcases esOf_val hr rm hes with ⟨hx, he0⟩ | ⟨r, en, ck, hx, hh, hlen, h1, h2⟩
          · refine ⟨[], by simp [he0], fun j hj => by simp [he0] at hj, fun j hj => by simp [he0] at hj, fun hck zz hf => ⟨fun hz => ?_, fun j u hz => ?_⟩⟩
            · subst hz
              simp only [execOp, ho, Instr.lookup, hx, Sem.run_bind, run_underlying ht, Result.andThen_ok, Sem.run_pure, hck, Array.toList_empty, hf, hzr]
            · subst hz
              simp only [execOp, ho, Instr.lookup, hx, Sem.run_bind, run_underlying ht, Result.andThen_ok, Sem.run_pure, hck, Array.toList_empty, hf, hzr]
          · refine ⟨en.toList, hlen, h1, h2, fun hck zz hf => ⟨fun hz => ?_, fun j u hz => ?_⟩⟩
            · subst hz
              simp only [execOp, ho, Instr.lookup, hx, Sem.run_bind, run_underlying ht, Result.andThen_ok, Sem.run_pure, hck, MapKept.run_getObj_map hh, hf, hzr]
            · subst hz
              simp only [execOp, ho, Instr.lookup, hx, Sem.run_bind, run_underlying ht, Result.andThen_ok, Sem.run_pure, hck, MapKept.run_getObj_map hh, hf, hzr]
        obtain ⟨L, hlen, h1, h2, hrun⟩ := main
        obtain ⟨hck, zz, hf, hf1, hf2⟩ := find_key hkt rk hkey hlen h1 hok hl
        cases r with
        | none =>
          have := hf1 rfl; subst this
          simp only [hl, Option.map_some, Option.map_none, Option.some.injEq] at hd
          subst hd
          refine ⟨if ok then .tuple #[zv, .bool false] else zv, (hrun hck _ hf).1 rfl, ?_⟩
          · have hz2 : SR w S β O (.p z) zv := .p _ _ (ofVal_rel hzp)
            cases ok
            · simpa using hz2
            · simp only [if_true]
              refine .tp _ _ (by simp) fun i hi => ?_
              match i, hi with
              | 0, _ => exact hz2
              | 1, _ => exact .p _ _ (.bool false)
        | some p =>
          obtain ⟨j, pv⟩ := p
          have hj := lookAt_idx hl
          simp only [Nat.sub_zero] at hj
          obtain ⟨_, hjl, hjv⟩ := hj
          have := hf2 j pv rfl; subst this
          simp only [hl, Option.map_some, Option.some.injEq] at hd
          subst hd
          have hv : SR w S β O (.p pv) (L[j]?.getD default).val := .p _ _ (by have := h2 j hjl; rw [hjv] at this; exact this)
          refine ⟨if ok then .tuple #[(L[j]?.getD default).val, .bool true] else (L[j]?.getD default).val, (hrun hck _ hf).2 j _ rfl, ?_⟩
          · cases ok
            · simpa using hv
            · simp only [if_true]
              refine .tp _ _ (by simp) fun i hi => ?_
              match i, hi with
              | 0, _ => exact hv
              | 1, _ => exact .p _ _ (.bool true)
    · cases hd
  · cases hd

theorem flat_cells {cs : List PV} (h : cs.all PV.isCell = true) : flat cs = cs ∧ ∀ x ∈ cs, x.cells.length = 1 := by
  induction cs with
  | nil => simp [flat]
  | cons c cs ih =>
    simp only [List.all_cons, Bool.and_eq_true] at h
    have hc : c.cells = [c] := by cases c <;> simp_all [PV.cells, PV.isCell]
    obtain ⟨h1, h2⟩ := ih h.2
    refine ⟨?_, fun x hx => ?_⟩
    · simp only [flat] at h1
      simp only [flat, List.flatMap_cons, hc, h1, List.singleton_append]
    · rcases List.mem_cons.1 hx with rfl | hx
      · simp [hc]
      · exact h2 x hx

theorem sim_slcA {t e : TypeId} {x : Operand} {y : Od} {lo hi : Option Operand} {lo' hi' : Option Od} {n sz : Nat} (hs : Slots w S β O σ a.tmps) (ho : o.op = .slice t x lo hi none) (ht : P.underlying t = some (.array n e)) (hsz : tySz P e = some sz)
    (hy : odOf x = some y) (h1 : optOd lo = some lo') (h2 : optOd hi = some hi') {Γ : Gam} (hd : stepD Γ O (ev σ) (.slcA n sz y lo' hi') = some v) : Val P w S β O a o v := by
  have hx := od_rel hs hy
  simp only [stepD] at hd
  split at hd
  · rename_i l h hl hh
    split at hd
    · rename_i hb
      obtain ⟨hlh, hhn, hsz1⟩ := hb
      subst hsz1
      have key : ∀ b off, a.eval x = .pointer (some ⟨b, off, none⟩) → (execOp a.eval o).run P w = .ok (.value (.slice (some (if n = l then ⟨b, off, none⟩ else ⟨b, off + l, none⟩)) (h - l) (n - l))) w := by
        intro b off he
        have hrb := run_bounds (P := P) (w := w) (isS := false) (n := n) (cap := n) hs h1 h2 hl (m := some n) (fun k hk => by injection hk with hk; exact hk.symm) hh hlh hhn
        by_cases hnl : n = l
        · subst hnl
          simp [execOp, ho, Instr.sliceAt, run_underlying ht, Instr.sureAddr, he, hrb, run_sz hsz]
        · simp [execOp, ho, Instr.sliceAt, run_underlying ht, Instr.sureAddr, he, hrb, run_sz hsz, hnl, Addr.add_lit]
      split at hd
      · rename_i cs hb
        rw [hb] at hx
        split at hd
        · rename_i hc
          injection hd with hd; subst hd
          have hp := hx.p_inv
          generalize hax : a.eval x = ax at hp
          cases hp with
          | cp _ b off vals hS hcell hrel =>
            have hk := key b off hax
            have hall : (List.take (h - l) (List.drop l cs)).all PV.isCell = true := List.all_eq_true.2 fun y hy => List.all_eq_true.1 hc.2 y (List.mem_of_mem_drop (List.mem_of_mem_take hy))
            obtain ⟨f1, f2⟩ := flat_cells hall
            have hlen : (List.take (h - l) (List.drop l cs)).length = h - l := by simp; omega
            refine ⟨_, hk, .p _ _ ?_⟩
            by_cases hnl : n = l
            · rw [if_pos hnl]
              refine .sl 1 _ b off (h - l) (n - l) (fun _ => undef) (by rw [hlen]) (by omega) hS f2 (fun i hi => ?_) (fun i hi => ?_)
              · rw [f1] at hi; omega
              · rw [f1] at hi; omega
            · rw [if_neg hnl]
              refine .sl 1 _ b (off + l) (h - l) (n - l) (fun i => vals (l + i)) (by rw [hlen]) (by omega) hS f2 (fun i hi => ?_) (fun i hi => ?_)
              · rw [f1, hlen] at hi
                rw [Nat.add_assoc]; exact hcell (l + i) (by omega)
              · have hi' : i < (List.take (h - l) (List.drop l cs)).length := by rw [← f1]; exact hi
                have e1 : (flat (List.take (h - l) (List.drop l cs)))[i] = (List.take (h - l) (List.drop l cs))[i] := by congr 1
                rw [e1]
                have := hrel (l + i) (by omega)
                simpa using this
        · cases hd
      · rename_i m hb
        rw [hb] at hx
        split at hd
        · rename_i s xs hm
          split at hd
          · rename_i hc
            obtain ⟨rfl, hnx⟩ := hc
            injection hd with hd; subst hd
            obtain ⟨s', xs', hm', hax, _⟩ := hx.el_inv (by rw [hm]; simp)
            rw [hm] at hm'; cases hm'
            have hk := key _ _ hax
            by_cases hnl : n = l
            · rw [if_pos hnl] at hk
              exact ⟨_, hk, .sub m 1 l h _ _ xs hm hlh (by omega) (by omega) (fun g => by omega)⟩
            · rw [if_neg hnl] at hk
              exact ⟨_, hk, .sub m 1 l h _ _ xs hm hlh (by omega) (by omega) (fun g => by simp)⟩
          · cases hd
        · cases hd
      · cases hd
    · cases hd
  · cases hd

end
end Go.Proofs.YtpobnchalcokoaaDoor.Pam
