/- A part of the proof that stands in this folder: a small machine whose steps are shown to be the steps of the model, or walks of functions by it. No condition of its own. -/
import Derived.Test.YtpobnchalcokoaaDoorPamN2
set_option linter.unusedVariables false
set_option linter.unusedSimpArgs false
namespace Go.Proofs.YtpobnchalcokoaaDoor.Pam
open Go

theorem NM_lt {d j : Nat} (hd : d < 50000) (hj : j < 15) : NM d j < 1000000 := by simp only [NM]; omega
theorem NM_inj {d j j' : Nat} (h : NM d j = NM d j') : j = j' := by simp only [NM] at h; omega
theorem mem_nms {d own n : Nat} : n ∈ nms d own ↔ ∃ j, j < own ∧ n = NM d j := by
  simp only [nms, List.mem_map, List.mem_range]
  exact ⟨fun ⟨j, h, e⟩ => ⟨j, h, e.symm⟩, fun ⟨j, h, e⟩ => ⟨j, h, e.symm⟩⟩
theorem nms_nodup (d own : Nat) : (nms d own).Nodup := by
  unfold nms
  rw [List.nodup_iff_pairwise_ne, List.pairwise_map]
  exact (List.nodup_iff_pairwise_ne.1 List.nodup_range).imp fun h e => h (NM_inj e)
theorem newC_names (d : Nat) : ∀ (j : Nat) (fs : List Ob), (newC d j fs).map (·.1) = (List.range' j fs.length).map (NM d)
  | j, [] => rfl
  | j, o :: r => by simp only [newC, List.map_cons, List.length_cons, List.range'_succ]; rw [newC_names d (j + 1) r]
theorem newC_names0 (d : Nat) (fs : List Ob) : (newC d 0 fs).map (·.1) = nms d fs.length := by rw [newC_names, ← List.range_eq_range']; rfl
theorem newC_mem (d : Nat) : ∀ (j : Nat) (fs : List Ob) (i : Nat) (h : i < fs.length), (NM d (j + i), fs[i]) ∈ newC d j fs
  | j, [], i, h => by simp at h
  | j, o :: r, 0, h => by simp [newC]
  | j, o :: r, i + 1, h => by
    have := newC_mem d (j + 1) r i (by simpa using h)
    simp only [newC, List.mem_cons, List.getElem_cons_succ]
    exact .inr (by rw [show j + (i + 1) = j + 1 + i by omega]; exact this)
theorem setL_miss {O : Objs} {n : Nat} : ∀ {l : List (Nat × Ob)}, n ∉ l.map (·.1) → setL l O n = O n
  | [], _ => rfl
  | (k, o) :: r, h => by
    simp only [List.map_cons, List.mem_cons, not_or] at h
    simp only [setL, setO, if_neg h.1]
    exact setL_miss h.2
theorem setL_hit {O : Objs} {n : Nat} {o : Ob} : ∀ {l : List (Nat × Ob)}, (l.map (·.1)).Nodup → (n, o) ∈ l → setL l O n = some o
  | [], _, h => by simp at h
  | (k, q) :: r, hn, h => by
    simp only [List.map_cons, List.nodup_cons] at hn
    rcases List.mem_cons.1 h with e | h
    · injection e with e1 e2; subst e1; subst e2; simp [setL, setO]
    · have : n ≠ k := fun e => hn.1 (by rw [← e]; exact List.mem_map.2 ⟨_, h, rfl⟩)
      simp only [setL, setO, if_neg this]
      exact setL_hit hn.2 h
theorem hideO_or : ∀ (l : List Nat) (O : Objs) (n : Nat), hideO l O n = O n ∨ hideO l O n = none
  | [], _, _ => .inl rfl
  | k :: r, O, n => by
    simp only [hideO, setO]
    split
    · exact .inr rfl
    · exact hideO_or r O n
theorem hideO_in : ∀ {l : List Nat} {O : Objs} {n : Nat}, n ∈ l → hideO l O n = none
  | k :: r, O, n, h => by
    simp only [hideO, setO]
    split
    · rfl
    · rename_i hne
      rcases List.mem_cons.1 h with e | h
      · exact absurd e hne
      · exact hideO_in h
theorem hideO_out : ∀ {l : List Nat} {O : Objs} {n : Nat}, n ∉ l → hideO l O n = O n
  | [], _, _, _ => rfl
  | k :: r, O, n, h => by
    simp only [List.mem_cons, not_or] at h
    simp only [hideO, setO, if_neg h.1]
    exact hideO_out h.2
theorem likeB_O {a b : Ob} (h : likeB a b = true) : likeO a b := by
  cases a <;> cases b <;> simp_all [likeB, likeO]
theorem likeL_get : ∀ {a b : List Ob}, likeL a b = true → a.length = b.length ∧ ∀ i (h : i < a.length) (h' : i < b.length), likeO a[i] b[i]
  | [], [], _ => ⟨rfl, fun i h => by simp at h⟩
  | [], _ :: _, h => by simp [likeL] at h
  | _ :: _, [], h => by simp [likeL] at h
  | x :: r, y :: q, h => by
    simp only [likeL, Bool.and_eq_true] at h
    obtain ⟨h1, h2⟩ := likeL_get h.2
    refine ⟨by simp [h1], fun i hi hi' => ?_⟩
    cases i with
    | zero => exact likeB_O h.1
    | succ i => exact h2 i (by simpa using hi) (by simpa using hi')
theorem likeO_trans_tr {a b : Ob} {f g : SV → SV} (h : likeO (a.tr f) b) : likeO a (b.tr g) := by
  cases a <;> cases b <;> simp_all [likeO, Ob.tr]

section
variable {P : Program} {w w' w1 : World} {S S' S2 : Nat → Prop} {β β' : Nat → Nat} {O O' : Objs} {σ σ' : Env} {a : Act} {o : Oper} {v : SV} {ann : Nat → Option Ann} {Γ : Gam} {tmps : Array Value} {K : Act → World → Prop} {Q : Exit → Act → World → Prop}

theorem SR.drop {v : SV} {x : Value} (h : SR w S β O v x) (hO : ∀ n, O' n = O n ∨ O' n = none) : SR w S β O' v x :=
  h.mono (fun b hb => ⟨hb, rfl⟩) fun n _ => by
    rcases hO n with e | e
    · cases ho : O n with
      | none => exact .inl (by rw [e, ho])
      | some o => exact .inr ⟨o, o, rfl, by rw [e, ho], likeO_refl o, rfl, rfl⟩
    · exact .inl e

theorem Rel.drop (h : Rel w S β O) (hO : ∀ n, O' n = O n ∨ O' n = none) : Rel w S β O' := by
  have hne : ∀ n, O' n ≠ none → O n ≠ none ∧ O' n = O n := fun n hn => by
    rcases hO n with e | e
    · exact ⟨e ▸ hn, e⟩
    · exact absurd e hn
  refine ⟨fun n hn => h.live n (hne n hn).1, fun n m hn hm => h.inj n m (hne n hn).1 (hne m hm).1, fun b hb => ⟨(h.sep b hb).1, fun n hn => (h.sep b hb).2 n (hne n hn).1⟩, fun n o ho => ?_⟩
  have h1 := h.obj n o (by rw [← (hne n (by rw [ho]; simp)).2, ho])
  cases o with
  | box cs => obtain ⟨c, ty, h1, h2, h3⟩ := h1; exact ⟨c, ty, h1, h2, fun i hi => (h3 i hi).drop hO⟩
  | arr sz xs => exact h1
  | map es => exact h1

/-- A reference under another name, to a thing of the same shape. -/
theorem nm_leaf {ν : Nat → Option Nat} (hν : ∀ m k, ν m = some k → (O m = none → O' k = none) ∧ ∀ ob, O m = some ob → O' k = none ∨ ∃ ob', O' k = some ob' ∧ likeO ob ob' ∧ β' k = β m) {v : SV} {x : Value} (hv : isRef v = true) (h : SR w S β O v x) : SR w S' β' O' (nmBy ν v) x := by
  cases h <;> simp only [isRef] at hv <;> first | (cases hv; done) | skip
  case bx n off cs ho =>
    simp only [nmBy]
    cases hk : ν n with
    | none => exact .junk _
    | some k =>
      rcases (hν n k hk).2 _ ho with g | ⟨ob', g1, g2, g3⟩
      · exact .dead _ k _ rfl rfl g
      · cases ob' <;> simp only [likeO] at g2
        rw [← g3]; exact .bx k off _ g1
  case ar n sz cap xs ho hl hc =>
    simp only [nmBy]
    cases hk : ν n with
    | none => exact .junk _
    | some k =>
      rcases (hν n k hk).2 _ ho with g | ⟨ob', g1, g2, g3⟩
      · exact .dead _ k _ rfl rfl g
      · cases ob' <;> simp only [likeO] at g2
        obtain ⟨rfl, g2⟩ := g2
        rw [← g3, g2]; exact .ar k _ cap _ g1 (by omega) (by rw [g3]; exact hc)
  case sub n sz lo hi o cap xs ho h1 h2 h3 h4 =>
    simp only [nmBy]
    cases hk : ν n with
    | none => exact .junk _
    | some k =>
      rcases (hν n k hk).2 _ ho with g | ⟨ob', g1, g2, g3⟩
      · exact .dead _ k _ rfl rfl g
      · cases ob' <;> simp only [likeO] at g2
        obtain ⟨rfl, g2⟩ := g2
        rw [← g3]; exact .sub k _ lo hi o cap _ g1 h1 (by omega) (by omega) (fun g => h4 (by omega))
  case el n sz i j xs ho hi =>
    simp only [nmBy]
    cases hk : ν n with
    | none => exact .junk _
    | some k =>
      rcases (hν n k hk).2 _ ho with g | ⟨ob', g1, g2, g3⟩
      · exact .dead _ k _ rfl rfl g
      · cases ob' <;> simp only [likeO] at g2
        obtain ⟨rfl, g2⟩ := g2
        rw [← g3]; exact .el k _ i j _ g1 (by omega)
  case mp n es ho =>
    simp only [nmBy]
    cases hk : ν n with
    | none => exact .junk _
    | some k =>
      rcases (hν n k hk).2 _ ho with g | ⟨ob', g1, g2, g3⟩
      · exact .dead _ k _ rfl rfl g
      · cases ob' <;> simp only [likeO] at g2
        rw [← g3]; exact .mp k _ g1
  case dead n _ _ _ =>
    have ho : O n = none := by assumption
    have hw : v.refs = [n] := by assumption
    have hr : isRef v = true := by assumption
    have key : ∀ m, v.refs = [m] → O m = none := fun m hm => by rw [hw] at hm; injection hm with hm _; rw [← hm]; exact ho
    cases v <;> simp only [isRef] at hr <;> first | (cases hr; done) | skip
    all_goals
      simp only [nmBy]
      split
      · rename_i k hk
        exact .dead _ k _ rfl rfl ((hν _ _ hk).1 (key _ rfl))
      · exact .junk _

mutual
theorem snap_refs : ∀ (k : Nat) {sv : SV} {pv : PV}, snap O k sv = some pv → ∀ n ∈ sv.refs, O n ≠ none
  | _, .p v, _, _ => by simp [SV.refs]
  | 0, .ag _, _, h => by simp [snap] at h
  | 0, .cl _ _ _, _, h => by simp [snap] at h
  | 0, .bx _ _, _, h => by simp [snap] at h
  | 0, .ar _, _, h => by simp [snap] at h
  | 0, .sub _ _ _, _, h => by simp [snap] at h
  | 0, .mp _, _, h => by simp [snap] at h
  | 0, .el _ _ _, _, h => by simp [snap] at h
  | 0, .tp _, _, h => by simp [snap] at h
  | k + 1, .tp _, _, h => by simp [snap] at h
  | _, .un, _, _ => by simp [SV.refs]
  | _, .junk, _, _ => by simp [SV.refs]
  | k + 1, .ag cs, pv, h => by
    simp only [snap] at h
    cases hm : cs.mapM (snap O k) with
    | none => simp [hm] at h
    | some vs => simp only [SV.refs]; exact snapL_refs k hm
  | k + 1, .cl f a b, pv, h => by
    simp only [snap] at h
    cases hm : a.mapM (snap O k) with
    | none => simp [hm] at h
    | some vs =>
      cases hm2 : b.mapM (snap O k) with
      | none => simp [hm, hm2] at h
      | some us =>
        intro n hn
        simp only [SV.refs, List.mem_append] at hn
        exact hn.elim (snapL_refs k hm n) (snapL_refs k hm2 n)
  | k + 1, .bx n off, pv, h => by
    intro q hq; simp only [SV.refs, List.mem_singleton] at hq; subst hq
    intro e; simp [snap, e] at h
  | k + 1, .ar n, pv, h => by
    intro q hq; simp only [SV.refs, List.mem_singleton] at hq; subst hq
    intro e; simp [snap, e] at h
  | k + 1, .sub n lo hi, pv, h => by
    intro q hq; simp only [SV.refs, List.mem_singleton] at hq; subst hq
    intro e; simp [snap, e] at h
  | k + 1, .mp n, pv, h => by
    intro q hq; simp only [SV.refs, List.mem_singleton] at hq; subst hq
    intro e; simp [snap, e] at h
  | k + 1, .el n i j, pv, h => by
    intro q hq; simp only [SV.refs, List.mem_singleton] at hq; subst hq
    intro e; simp [snap, e] at h
theorem snapL_refs : ∀ (k : Nat) {cs : List SV} {vs : List PV}, cs.mapM (snap O k) = some vs → ∀ n ∈ SV.refsL cs, O n ≠ none
  | _, [], _, _ => by simp [SV.refsL]
  | k, c :: r, vs, h => by
    simp only [List.mapM_cons] at h
    cases h1 : snap O k c with
    | none => simp [h1] at h
    | some y =>
      cases h2 : r.mapM (snap O k) with
      | none => simp [h1, h2] at h
      | some m =>
        intro n hn
        simp only [SV.refsL, List.mem_append] at hn
        exact hn.elim (snap_refs k h1 n) (snapL_refs k h2 n)
end
end
end Go.Proofs.YtpobnchalcokoaaDoor.Pam
