/- A part of the proof that stands in this folder: a small machine whose steps are shown to be the steps of the model, or walks of functions by it. No condition of its own. -/
import Derived.Test.YtpobnchalcokoaaDoorPamE
set_option linter.unusedVariables false
set_option linter.unusedSimpArgs false
namespace Go.Proofs.YtpobnchalcokoaaDoor.Pam
open Go
section
variable {P : Program} {w : World} {S : Nat → Prop} {β : Nat → Nat} {O : Objs} {σ : Env} {a : Act} {o : Oper} {v : SV}

theorem cut_cells {sz : Nat} {xs : List PV} (h : ∀ x ∈ xs, x.cells.length = sz) (l k : Nat) : flat ((xs.drop l).take k) = ((flat xs).drop (l * sz)).take (k * sz) := by
  rw [flat_take (fun x hx => h x (List.mem_of_mem_drop hx)), flat_drop h]

theorem PR.cut {sz : Nat} {xs : List PV} {b off off' cap' l h : Nat} {vals : Nat → Value} (hS : S b) (hsz : ∀ x ∈ xs, x.cells.length = sz) (hc : ∀ i, i < (flat xs).length → w.cell? ⟨b, off + i, none⟩ = some (vals i))
    (hh : ∀ i (hi : i < (flat xs).length), PR w S (flat xs)[i] (vals i)) (hlh : l ≤ h) (hle : h ≤ xs.length) (ho : l < h → off' = off + l * sz) (hcap : h - l ≤ cap') :
    PR w S (.sl sz ((xs.drop l).take (h - l))) (.slice (some ⟨b, off', none⟩) (h - l) cap') := by
  have hsz' : ∀ x ∈ (xs.drop l).take (h - l), x.cells.length = sz := fun x hx => hsz x (List.mem_of_mem_drop (List.mem_of_mem_take hx))
  have hlen : ((xs.drop l).take (h - l)).length = h - l := by simp; omega
  have hfl := flat_length hsz
  have hfl' := flat_length hsz'
  rw [hlen] at hfl'
  have hin : ∀ i, i < (flat ((xs.drop l).take (h - l))).length → l < h ∧ l * sz + i < (flat xs).length := fun i hi => by
    rw [hfl'] at hi
    have hlt : l < h := by
      rcases Nat.lt_or_ge l h with g | g
      · exact g
      · have e0 : h - l = 0 := by omega
        rw [e0, Nat.zero_mul] at hi; omega
    refine ⟨hlt, ?_⟩
    rw [hfl]
    calc l * sz + i < l * sz + (h - l) * sz := by omega
      _ = h * sz := by rw [← Nat.add_mul]; congr 1; omega
      _ ≤ xs.length * sz := Nat.mul_le_mul_right _ hle
  refine .sl sz _ b off' (h - l) cap' (fun i => vals (l * sz + i)) hlen.symm hcap hS hsz' (fun i hi => ?_) (fun i hi => ?_)
  · obtain ⟨h1, h2⟩ := hin i hi
    rw [ho h1, Nat.add_assoc]; exact hc _ h2
  · obtain ⟨h1, h2⟩ := hin i hi
    have := hh _ h2
    simpa [cut_cells hsz] using this

theorem run_bound {x : Value} {n y : Nat} {k : IntKind} {c : BoundsCode} (hx : x = .int k n) (h : n ≤ y) : (Instr.sliceBound x y c).run P w = .ok n w := by
  subst hx
  have h' : (n : Int) ≤ y := by omega
  simp [Instr.sliceBound, asIntOf, h']

theorem opt_rel (hs : Slots w S β O σ a.tmps) {x : Option Operand} {y : Option Od} (h : optOd x = some y) : (x = none ∧ y = none) ∨ ∃ x' y', x = some x' ∧ y = some y' ∧ SR w S β O (ev σ y') (a.eval x') := by
  cases x with
  | none => simp [optOd] at h; exact .inl ⟨rfl, h.symm⟩
  | some x' =>
    simp only [optOd] at h
    cases h1 : odOf x' with
    | none => simp [h1] at h
    | some y' => simp [h1] at h; subst h; exact .inr ⟨x', y', rfl, rfl, od_rel hs h1⟩

/-- The bounds of a slice expression. -/
theorem run_bounds {lo hi : Option Operand} {lo' hi' : Option Od} {l h n cap : Nat} {isS : Bool} (hs : Slots w S β O σ a.tmps) (h1 : optOd lo = some lo') (h2 : optOd hi = some hi') (hl : loA (ev σ) lo' = some l) {m : Option Nat} (hm : ∀ k, m = some k → k = n) (hh : hiA (ev σ) m hi' = some h)
    (hlh : l ≤ h) (hcap : h ≤ cap) : (Instr.sliceBounds isS n cap (lo.map a.eval) (hi.map a.eval) none).run P w = .ok (l, h, cap) w := by
  rcases opt_rel hs h1 with ⟨rfl, rfl⟩ | ⟨x1, y1, rfl, rfl, r1⟩ <;> rcases opt_rel hs h2 with ⟨rfl, rfl⟩ | ⟨x2, y2, rfl, rfl, r2⟩
  · simp only [loA, Option.some.injEq] at hl
    simp only [hiA] at hh
    have := hm _ hh
    subst this; subst hl
    rfl
  · simp only [loA, Option.some.injEq] at hl
    simp only [hiA] at hh
    obtain ⟨k, hk⟩ := natOf_val r2 hh
    subst hl
    simp only [Instr.sliceBounds, Option.map_none, Option.map_some, hk, Sem.run_bind, Sem.run_pure, Result.andThen_ok, run_bound rfl hcap]
  · simp only [loA] at hl
    simp only [hiA] at hh
    obtain ⟨k, hk⟩ := natOf_val r1 hl
    have := hm _ hh
    subst this
    simp only [Instr.sliceBounds, Option.map_none, Option.map_some, hk, Sem.run_bind, Sem.run_pure, Result.andThen_ok, Option.isSome_none, Bool.false_eq_true, if_false, run_bound rfl hlh]
  · simp only [loA] at hl
    simp only [hiA] at hh
    obtain ⟨k, hk⟩ := natOf_val r1 hl
    obtain ⟨k', hk'⟩ := natOf_val r2 hh
    simp only [Instr.sliceBounds, Option.map_some, hk, hk', Sem.run_bind, Sem.run_pure, Result.andThen_ok, Option.isSome_none, Bool.false_eq_true, if_false, run_bound rfl hcap, run_bound rfl hlh]

theorem getD_extract {vs : Array Value} {p n i : Nat} (h : p + n ≤ vs.size) (hi : i < n) : (vs.extract p (p + n)).getD i undef = vs.getD (p + i) undef := by
  have h1 : i < (vs.extract p (p + n)).size := by simp; omega
  have h2 : p + i < vs.size := by omega
  simp [Array.getElem?_eq_getElem h1, Array.getElem?_eq_getElem h2]

theorem sim_slc {t e : TypeId} {x : Operand} {y : Od} {lo hi : Option Operand} {lo' hi' : Option Od} {sz : Nat} (hs : Slots w S β O σ a.tmps) (ho : o.op = .slice t x lo hi none) (ht : P.underlying t = some (.slice e)) (hsz : tySz P e = some sz)
    (hy : odOf x = some y) (h1 : optOd lo = some lo') (h2 : optOd hi = some hi') {Γ : Gam} (hd : stepD Γ O (ev σ) (.slc sz y lo' hi') = some v) : Val P w S β O a o v := by
  have hx := od_rel hs hy
  simp only [stepD] at hd
  split at hd
  · rename_i l h n hl hh hn
    split at hd
    · rename_i hb
      obtain ⟨hlh, hhn⟩ := hb
      have key : ∀ b cap, a.eval x = .slice b n cap → n ≤ cap → (execOp a.eval o).run P w = .ok (.value (.slice (if cap = l then b else b.map (·.add (l * sz))) (h - l) (cap - l))) w := by
        intro b cap he hc
        have hrb := run_bounds (P := P) (isS := true) (n := n) (cap := cap) hs h1 h2 hl (m := lenA O (ev σ y)) (fun k hk => by rw [hn] at hk; injection hk with hk; exact hk.symm) hh hlh (by omega)
        simp [execOp, ho, Instr.sliceAt, run_underlying ht, Instr.slice, he, hrb, run_sz hsz]
      split at hd
      · rename_i s xs hb
        rw [hb] at hx hn
        split at hd
        · rename_i hss; subst hss
          injection hd with hd; subst hd
          have hp := hx.p_inv
          generalize hax : a.eval x = ax at hp
          cases hp with
          | sl _ _ b off len cap vals hl' hcap hS hsz' hc hrel =>
            simp only [lenA, Option.some.injEq] at hn
            subst hn
            subst hl'
            have hk := key _ _ hax hcap
            by_cases hcl : cap = l
            · rw [if_pos hcl] at hk
              refine ⟨_, hk, .p _ _ (PR.cut hS hsz' hc hrel hlh hhn (fun g => by omega) (by omega))⟩
            · rw [if_neg hcl] at hk
              simp only [Option.map_some, Addr.add_lit] at hk
              refine ⟨_, hk, .p _ _ (PR.cut hS hsz' hc hrel hlh hhn (fun _ => rfl) (by omega))⟩
        · cases hd
      · rename_i hb
        rw [hb] at hx hn
        injection hd with hd; subst hd
        have hp := hx.p_inv
        generalize hax : a.eval x = ax at hp
        cases hp
        simp only [lenA, Option.some.injEq] at hn
        subst hn
        have hk := key _ _ hax (Nat.le_refl _)
        have e1 : h = 0 := by omega
        have e2 : l = 0 := by omega
        subst e1; subst e2
        exact ⟨_, hk, .p _ _ .nilsl⟩
      · rename_i m hb
        rw [hb] at hx hn
        split at hd
        · rename_i s xs hm
          split at hd
          · rename_i hss; subst hss
            injection hd with hd; subst hd
            obtain ⟨s', xs', cap, hm', he, hle, _⟩ := hx.ar_inv (by rw [hm]; simp)
            rw [hm] at hm'; cases hm'
            simp only [lenA, hm, Option.some.injEq] at hn
            subst hn
            have hk := key _ _ he hle
            by_cases hcl : cap = l
            · rw [if_pos hcl] at hk
              exact ⟨_, hk, .sub m s l h _ _ xs hm hlh hhn (by omega) (fun g => by omega)⟩
            · rw [if_neg hcl] at hk
              simp only [Option.map_some, Addr.add_lit, Nat.zero_add] at hk
              exact ⟨_, hk, .sub m s l h _ _ xs hm hlh hhn (by omega) (fun _ => rfl)⟩
          · cases hd
        · cases hd
      · rename_i m lo0 hi0 hb
        rw [hb] at hx hn
        split at hd
        · rename_i s xs hm
          split at hd
          · rename_i hss; subst hss
            injection hd with hd; subst hd
            obtain ⟨s', xs', off, cap, hm', he, g1, g2, g3, g4⟩ := hx.sub_inv2 (by rw [hm]; simp)
            rw [hm] at hm'; cases hm'
            simp only [lenA, hm, Option.some.injEq] at hn
            subst hn
            have hk := key _ _ he (by omega)
            have e3 : h - l = (lo0 + h) - (lo0 + l) := by omega
            by_cases hcl : cap = l
            · rw [if_pos hcl, e3] at hk
              exact ⟨_, hk, .sub m s _ _ _ _ xs hm (by omega) (by omega) (by omega) (fun g => by omega)⟩
            · rw [if_neg hcl, e3] at hk
              simp only [Option.map_some, Addr.add_lit] at hk
              exact ⟨_, hk, .sub m s _ _ _ _ xs hm (by omega) (by omega) (by omega) (fun g => by rw [g4 (by omega), Nat.add_mul])⟩
          · cases hd
        · cases hd
      · cases hd
    · -- beyond the length
      split at hd
      · rename_i m lo0 hi0 hb
        rw [hb] at hx hn
        split at hd
        · rename_i s xs hm
          split at hd
          · rename_i hcond
            obtain ⟨hss, hlh, hhx⟩ := hcond
            subst hss
            injection hd with hd; subst hd
            obtain ⟨s', xs', off, cap, hm', he, g1, g2, g3, g4⟩ := hx.sub_inv2 (by rw [hm]; simp)
            rw [hm] at hm'; cases hm'
            simp only [lenA, hm, Option.some.injEq] at hn
            have hrb := run_bounds (P := P) (isS := true) (n := hi0 - lo0) (cap := cap) hs h1 h2 hl (m := lenA O (ev σ y)) (fun k hk => by rw [hb] at hk; simp only [lenA, hm, Option.some.injEq] at hk; exact hk.symm) hh hlh (by omega)
            have hk : (execOp a.eval o).run P w = .ok (.value (.slice (if cap = l then some ⟨β m, off, none⟩ else (some (⟨β m, off, none⟩ : Addr)).map (·.add (l * s))) (h - l) (cap - l))) w := by
              simp [execOp, ho, Instr.sliceAt, run_underlying ht, Instr.slice, he, hrb, run_sz hsz]
            have e3 : h - l = (lo0 + h) - (lo0 + l) := by omega
            by_cases hcl : cap = l
            · rw [if_pos hcl, e3] at hk
              exact ⟨_, hk, .sub m s _ _ _ _ xs hm (by omega) (by omega) (by omega) (fun g => by omega)⟩
            · rw [if_neg hcl, e3] at hk
              simp only [Option.map_some, Addr.add_lit] at hk
              exact ⟨_, hk, .sub m s _ _ _ _ xs hm (by omega) (by omega) (by omega) (fun g => by rw [g4 (by omega), Nat.add_mul])⟩
          · cases hd
        · cases hd
      · cases hd
  · cases hd

theorem sim_slc3 {t e : TypeId} {x lo hi mx : Operand} {y lo' hi' mx' : Od} {sz : Nat} (hs : Slots w S β O σ a.tmps) (ho : o.op = .slice t x (some lo) (some hi) (some mx)) (ht : P.underlying t = some (.slice e)) (hsz : tySz P e = some sz)
    (hy : odOf x = some y) (h1 : odOf lo = some lo') (h2 : odOf hi = some hi') (h3 : odOf mx = some mx') {Γ : Gam} (hd : stepD Γ O (ev σ) (.slc3 y lo' hi' mx') = some v) : Val P w S β O a o v := by
  simp only [stepD] at hd
  split at hd
  · rename_i l h k n hl hh hk hn
    split at hd
    · rename_i hc
      injection hd with hd; subst hd
      obtain ⟨b, c, he, hnc⟩ := lenA_val (od_rel hs hy) hn
      obtain ⟨k1, e1⟩ := natOf_val (od_rel hs h1) hl
      obtain ⟨k2, e2⟩ := natOf_val (od_rel hs h2) hh
      obtain ⟨k3, e3⟩ := natOf_val (od_rel hs h3) hk
      have hrb : (Instr.sliceBounds true n c (some (a.eval lo)) (some (a.eval hi)) (some (a.eval mx))).run P w = .ok (l, h, k) w := by
        simp only [Instr.sliceBounds, e1, e2, e3, Sem.run_bind, Sem.run_pure, Result.andThen_ok, run_bound (P := P) (w := w) rfl (show k ≤ c by omega), run_bound (P := P) (w := w) rfl hc.2.1, run_bound (P := P) (w := w) rfl hc.1]
      exact ⟨_, by simp [execOp, ho, Instr.sliceAt, run_underlying ht, Instr.slice, he, hrb, run_sz hsz]; rfl, .junk _⟩
    · cases hd
  · cases hd

theorem sim_slcS {t : TypeId} {x : Operand} {y : Od} {lo hi : Option Operand} {lo' hi' : Option Od} (hs : Slots w S β O σ a.tmps) (ho : o.op = .slice t x lo hi none) (ht : P.underlying t = some .string)
    (hy : odOf x = some y) (h1 : optOd lo = some lo') (h2 : optOd hi = some hi') {Γ : Gam} (hd : stepD Γ O (ev σ) (.slcS y lo' hi') = some v) : Val P w S β O a o v := by
  have hx := od_rel hs hy
  simp only [stepD] at hd
  split at hd
  · rename_i s hb
    rw [hb] at hx
    split at hd
    · rename_i l h hl hh
      split at hd
      · rename_i hbd
        injection hd with hd; subst hd
        have hp := hx.p_inv
        generalize hax : a.eval x = ax at hp
        cases hp
        have hrb := run_bounds (P := P) (isS := false) (n := s.size) (cap := s.size) hs h1 h2 hl (m := some s.size) (fun k hk => by injection hk with hk; exact hk.symm) hh hbd.1 hbd.2
        exact ⟨.string (s.extract l h), by simp [execOp, ho, Instr.sliceAt, run_underlying ht, Instr.slice, hax, hrb], .p _ _ (.str _)⟩
      · cases hd
    · cases hd
  · cases hd

theorem sim_fld {t : TypeId} {x : Operand} {y : Od} {fi n : Nat} {ag : Bool} {fs : Array Field} {f : Field} (hs : Slots w S β O σ a.tmps) (ho : o.op = .field t x fi) (ht : P.underlying t = some (.struct fs)) (hf : fs[fi]? = some f)
    (hag : tyAg P f.type = some ag) (hn : tySz P f.type = some n) (hy : odOf x = some y) {Γ : Gam} (hd : stepD Γ O (ev σ) (.fld ag f.offset n y) = some v) : Val P w S β O a o v := by
  have hx := od_rel hs hy
  have main : ∀ vs, a.eval x = .agg vs → (∀ u, (if ag = true then u = .agg (vs.extract f.offset (f.offset + n)) else vs[f.offset]? = some u) → SR w S β O v u) → (ag = true ∨ ∃ u, vs[f.offset]? = some u) → Val P w S β O a o v := by
    intro vs he hrel hex
    cases ag with
    | true => exact ⟨_, by simp [execOp, ho, Instr.field, run_underlying ht, hf, he, asAgg, part, run_ag hag, run_sz hn]; rfl, hrel _ (by simp)⟩
    | false =>
      obtain ⟨u, hu⟩ := hex.resolve_left (by simp)
      exact ⟨u, by simp [execOp, ho, Instr.field, run_underlying ht, hf, he, asAgg, part, run_ag hag, hu], hrel _ (by simp [hu])⟩
  simp only [stepD] at hd
  split at hd
  · rename_i cs hb
    rw [hb] at hx
    obtain ⟨vs, he, hsz, hc⟩ := hx.ag_inv
    cases ag with
    | true =>
      simp only [if_true] at hd
      split at hd
      · rename_i hle
        injection hd with hd; subst hd
        refine main vs he (fun u hu => ?_) (.inl rfl)
        simp only [if_true] at hu; subst hu
        refine .ag _ _ (by simp; omega) fun i hi => ?_
        have hi' : i < n := by simp at hi; omega
        have hlt : f.offset + i < vs.size := by omega
        have := hc (f.offset + i) (by omega)
        rw [getD_extract (by omega) hi']
        simpa using this
      · cases hd
    | false =>
      simp only [Bool.false_eq_true, if_false] at hd
      obtain ⟨hlt, hc0⟩ := List.getElem?_eq_some_iff.1 hd
      have hl : f.offset < vs.size := by omega
      refine main vs he (fun u hu => ?_) (.inr ⟨_, Array.getElem?_eq_getElem hl⟩)
      simp only [Bool.false_eq_true, if_false] at hu
      have := hc _ hlt
      rw [hc0] at this
      simpa [hu] using this
  · rename_i cs hb
    rw [hb] at hx
    have hp := hx.p_inv
    generalize hax : a.eval x = ax at hp
    cases hp with
    | agg _ vs hsz hc =>
      cases ag with
      | true =>
        simp only [if_true] at hd
        split at hd
        · rename_i hle
          injection hd with hd; subst hd
          refine main vs hax (fun u hu => ?_) (.inl rfl)
          simp only [if_true] at hu; subst hu
          refine .p _ _ (.agg _ _ (by simp; omega) fun i hi => ?_)
          have hi' : i < n := by simp at hi; omega
          have hlt : f.offset + i < vs.size := by omega
          have := hc (f.offset + i) (by omega)
          rw [getD_extract (by omega) hi']
          simpa using this
        · cases hd
      | false =>
        simp only [Bool.false_eq_true, if_false] at hd
        cases hcs : cs[f.offset]? with
        | none => simp [hcs] at hd
        | some c =>
          simp [hcs] at hd; subst hd
          obtain ⟨hlt, hc0⟩ := List.getElem?_eq_some_iff.1 hcs
          have hl : f.offset < vs.size := by omega
          refine main vs hax (fun u hu => ?_) (.inr ⟨_, Array.getElem?_eq_getElem hl⟩)
          simp only [Bool.false_eq_true, if_false] at hu
          have := hc _ hlt
          rw [hc0] at this
          exact .p _ _ (by simpa [hu] using this)
  · cases hd

theorem sim_ia {t e : TypeId} {x i : Operand} {y i' : Od} {sz : Nat} (hs : Slots w S β O σ a.tmps) (ho : o.op = .indexAddr t x i) (ht : P.underlying t = some (.slice e)) (hsz : tySz P e = some sz)
    (hy : odOf x = some y) (hi : odOf i = some i') {Γ : Gam} (hd : stepD Γ O (ev σ) (.ia sz y i') = some v) : Val P w S β O a o v := by
  have hx := od_rel hs hy
  have ri := od_rel hs hi
  simp only [stepD] at hd
  split at hd
  · rename_i n hn
    obtain ⟨k, hk⟩ := natOf_val ri hn
    have key : ∀ b off len cap, a.eval x = .slice (some ⟨b, off, none⟩) len cap → n < len → (execOp a.eval o).run P w = .ok (.value (.pointer (some ⟨b, off + n * sz, none⟩))) w := by
      intro b off len cap he hlt
      simp [execOp, ho, Instr.indexAt, run_underlying ht, hk, asIntOf, he, run_sz hsz, Addr.add_lit]
      intro hge; exact absurd hge (by omega)
    split at hd
    · rename_i m hb
      rw [hb] at hx
      split at hd
      · rename_i s xs hm
        split at hd
        · rename_i hbd
          injection hd with hd; subst hd
          obtain ⟨s', xs', cap, hm', he, _, _⟩ := hx.ar_inv (by rw [hm]; simp)
          rw [hm] at hm'; cases hm'
          have := key _ _ _ _ he hbd.2
          rw [Nat.zero_add] at this
          obtain ⟨rfl, hlt⟩ := hbd
          exact ⟨_, this, .el m s n 0 xs hm hlt⟩
        · cases hd
      · cases hd
    · rename_i m lo hi0 hb
      rw [hb] at hx
      split at hd
      · rename_i s xs hm
        split at hd
        · rename_i hbd
          injection hd with hd; subst hd
          obtain ⟨rfl, hlt, hle⟩ := hbd
          obtain ⟨s', xs', off, cap, hm', he, g1, g2, g3, g4⟩ := hx.sub_inv (by rw [hm]; simp)
          rw [hm] at hm'; cases hm'
          have := key _ _ _ _ he (by omega)
          rw [g4 (by omega), ← Nat.add_mul] at this
          exact ⟨_, this, .el m s (lo + n) 0 xs hm (by omega)⟩
        · cases hd
      · cases hd
    · rename_i s xs hb
      rw [hb] at hx
      split at hd
      · rename_i hss; subst hss
        cases hxn : xs[n]? with
        | none => simp [hxn] at hd
        | some el =>
          simp [hxn] at hd; subst hd
          obtain ⟨hlt, hel⟩ := List.getElem?_eq_some_iff.1 hxn
          have hp := hx.p_inv
          generalize hax : a.eval x = ax at hp
          cases hp with
          | sl _ _ b off len cap vals hl hcap hS hsz' hc hh =>
            have hfl := flat_length hsz'
            have hes : el.cells.length = s := by rw [← hel]; exact hsz' _ (List.getElem_mem hlt)
            have hin : ∀ q, q < s → n * s + q < (flat xs).length := fun q hq => by
              rw [hfl]
              calc n * s + q < n * s + s := by omega
                _ = (n + 1) * s := by rw [Nat.succ_mul]
                _ ≤ xs.length * s := Nat.mul_le_mul_right _ (by omega)
            refine ⟨_, key _ _ _ _ hax (by omega), .p _ _ (.cp _ b _ (fun q => vals (n * s + q)) hS (fun q hq => ?_) (fun q hq => ?_))⟩
            · rw [Nat.add_assoc]; exact hc _ (hin q (by omega))
            · have h1 := hh _ (hin q (by omega))
              rw [flat_get hsz' n q hlt (by omega)] at h1
              simpa [hel] using h1
      · cases hd
    · cases hd
  · cases hd

theorem sim_iaA {t e : TypeId} {x i : Operand} {y i' : Od} {len sz : Nat} (hs : Slots w S β O σ a.tmps) (ho : o.op = .indexAddr t x i) (ht : P.underlying t = some (.array len e)) (hsz : tySz P e = some sz)
    (hy : odOf x = some y) (hi : odOf i = some i') {Γ : Gam} (hd : stepD Γ O (ev σ) (.iaA len sz y i') = some v) : Val P w S β O a o v := by
  have hx := od_rel hs hy
  have ri := od_rel hs hi
  simp only [stepD] at hd
  split at hd
  · rename_i n hn
    obtain ⟨k, hk⟩ := natOf_val ri hn
    split at hd
    · rename_i hlt
      have key : ∀ b off, a.eval x = .pointer (some ⟨b, off, none⟩) → (execOp a.eval o).run P w = .ok (.value (.pointer (some ⟨b, off + n * sz, none⟩))) w := by
        intro b off he
        simp [execOp, ho, Instr.indexAt, run_underlying ht, hk, asIntOf, he, run_sz hsz, Addr.add_lit, Instr.sureAddr]
        intro hge; exact absurd hge (by omega)
      split at hd
      · rename_i m off hb
        rw [hb] at hx
        split at hd
        · rename_i hl
          injection hd with hd; subst hd
          obtain ⟨he, cs, hm⟩ := hx.bx_inv (by intro e; simp [e] at hl)
          exact ⟨_, key _ _ he, .bx m _ cs hm⟩
        · cases hd
      · rename_i m ei off hb
        rw [hb] at hx
        split at hd
        · rename_i hl
          injection hd with hd; subst hd
          obtain ⟨sz', xs, hm, he, hie⟩ := hx.el_inv (by intro e; simp [e] at hl)
          exact ⟨_, key _ _ he, by rw [Nat.add_assoc]; exact .el m sz' ei _ xs hm hie⟩
        · cases hd
      · rename_i cs hb
        rw [hb] at hx
        split at hd
        · rename_i hle
          injection hd with hd; subst hd
          have hp := hx.p_inv
          generalize hax : a.eval x = ax at hp
          cases hp with
          | cp _ b off vals hS hc hh =>
            refine ⟨_, key _ _ hax, .p _ _ (.cp _ b _ (fun q => vals (n * sz + q)) hS (fun q hq => ?_) (fun q hq => ?_))⟩
            · rw [Nat.add_assoc]; exact hc _ (by simp at hq; omega)
            · have := hh (n * sz + q) (by simp at hq; omega)
              simpa using this
        · cases hd
      · cases hd
    · cases hd
  · cases hd
end
end Go.Proofs.YtpobnchalcokoaaDoor.Pam
