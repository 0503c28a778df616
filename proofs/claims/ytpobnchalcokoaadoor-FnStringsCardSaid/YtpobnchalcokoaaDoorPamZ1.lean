/- A part of the proof that stands in this folder: a small machine whose steps are shown to be the steps of the model, or walks of functions by it. No condition of its own. -/
import Derived.Test.YtpobnchalcokoaaDoorPamZ
import Derived.Test.YtpobnchalcokoaaDoorPamT2
set_option linter.unusedVariables false
set_option linter.unusedSimpArgs false
namespace Go.Proofs.YtpobnchalcokoaaDoor.Pam
open Go

section
variable {P : Program} {σ : Env} {O : Objs} {Γ : Gam}

def gvM (gv : List Nat) (i : Nat) : Nat := if gv.contains i = true then 900000 + i else X i
theorem gvM_inj {gv : List Nat} {i j : Nat} (hi : i < 1000) (hj : j < 1000) (h : gvM gv i = gvM gv j) : i = j := by
  unfold gvM at h
  split at h <;> split at h <;> first | omega | (simp only [X] at h; omega)
theorem mkO_at {nm : Nat → Nat} {g : Ob → Ob} : ∀ (ext : List Ob) (j : Nat), (∀ a b, a < j + ext.length → b < j + ext.length → nm a = nm b → a = b) → ∀ i (h : i < ext.length), mkO ((ext.zipIdx j).map fun p => (nm p.2, some (g p.1))) (nm (j + i)) = some (g ext[i])
  | [], j, _, i, h => by simp at h
  | o :: r, j, hinj, 0, _ => by simp [mkO]
  | o :: r, j, hinj, i + 1, h => by
    simp only [List.zipIdx_cons, List.map_cons, mkO]
    rw [if_neg fun e => by have := hinj _ _ (by simp at h ⊢; omega) (by simp) e; omega]
    have := mkO_at (nm := nm) (g := g) r (j + 1) (fun a b ha hb => hinj a b (by simp at ha hb ⊢; omega) (by simp at ha hb ⊢; omega)) i (by simpa using h)
    rw [show j + (i + 1) = j + 1 + i by omega, this]
    simp
theorem mkO_no {nm : Nat → Nat} {g : Ob → Ob} {n : Nat} : ∀ (ext : List Ob) (j : Nat), (∀ i, i < ext.length → n ≠ nm (j + i)) → mkO ((ext.zipIdx j).map fun p => (nm p.2, some (g p.1))) n = none
  | [], j, _ => rfl
  | o :: r, j, h => by
    simp only [List.zipIdx_cons, List.map_cons, mkO]
    rw [if_neg (by have := h 0 (by simp); simpa using this)]
    exact mkO_no r (j + 1) fun i hi => by have := h (i + 1) (by simpa using hi); rwa [show j + (i + 1) = j + 1 + i by omega] at this
theorem gvO_mk (gv : List Nat) (ext : List Ob) (he : ext.length ≤ 1000) : gvO gv ext = mkO (ext.zipIdx.map fun p => (gvM gv p.2, some (p.1.tr (nmBy (gvN gv))))) := by
  funext n
  by_cases hx : ∃ i, ∃ h : i < ext.length, n = gvM gv i
  · obtain ⟨i, hi, rfl⟩ := hx
    have h1 := mkO_at (nm := gvM gv) (g := fun o => o.tr (nmBy (gvN gv))) ext 0 (fun a b ha hb => gvM_inj (by omega) (by omega)) i hi
    rw [Nat.zero_add] at h1
    rw [h1]
    have hr : resO ext [] (X i) = some ext[i] := by rw [resO_X (by omega)]; simp [hi]
    unfold gvO
    cases hc : gv.contains i with
    | true =>
      have e : gvM gv i = 900000 + i := by simp only [gvM, hc, if_true]
      have g1 : givenB gv (900000 + i) = false := by
        simp only [givenB, Bool.and_eq_false_iff, decide_eq_false_iff_not]; exact .inl (.inl (by omega))
      have g2 : ownB gv (900000 + i) = true := by
        simp only [ownB, Bool.and_eq_true, decide_eq_true_eq]
        exact ⟨⟨by omega, by omega⟩, by rw [show 900000 + i - 900000 = i by omega]; exact hc⟩
      have g3 : gvS gv (900000 + i) = X i := by simp only [gvS, g2, if_true, X]; omega
      rw [e, g1, g3, hr]; rfl
    | false =>
      have e : gvM gv i = X i := by simp only [gvM, hc, Bool.false_eq_true, if_false]
      have g1 : givenB gv (X i) = false := by
        simp only [givenB, Bool.and_eq_false_iff]; exact .inr (by rw [show X i - 1000000 = i by simp only [X]; omega]; exact hc)
      have g2 : ownB gv (X i) = false := by
        simp only [ownB, Bool.and_eq_false_iff, decide_eq_false_iff_not]; exact .inl (.inr (by simp only [X]; omega))
      have g3 : gvS gv (X i) = X i := by simp only [gvS, g2, Bool.false_eq_true, if_false]
      rw [e, g1, g3, hr]; rfl
  · rw [mkO_no ext 0 fun i hi e => hx ⟨i, hi, by simpa using e⟩]
    cases hg : gvO gv ext n with
    | none => rfl
    | some o =>
      exfalso
      obtain ⟨_, h2, h3⟩ := gvO_get (show gvO gv ext n ≠ none by rw [hg]; simp)
      rcases resO_inv h2 with ⟨i, hi, e, _⟩ | ⟨j, hj, _⟩
      · refine hx ⟨i, hi, ?_⟩
        unfold gvS at e
        cases ho : ownB gv n with
        | true =>
          rw [ho, if_pos rfl] at e
          simp only [ownB, Bool.and_eq_true, decide_eq_true_eq] at ho
          have en : n - 900000 = i := by simp only [X] at e; omega
          rw [en] at ho
          simp only [gvM, ho.2, if_true]; omega
        | false =>
          rw [ho] at e
          simp only [Bool.false_eq_true, if_false] at e
          have hc : gv.contains i = false := by
            simp only [givenB, Bool.and_eq_false_iff, decide_eq_false_iff_not] at h3
            rcases h3 with (h3 | h3) | h3
            · exfalso; apply h3; rw [e]; simp only [X]; omega
            · exfalso; apply h3; rw [e]; simp only [X]; omega
            · rwa [e, show X i - 1000000 = i by simp only [X]; omega] at h3
          simp only [gvM, hc, Bool.false_eq_true, if_false]; exact e
      · simp at hj

/-- A function to which objects are given: 'gv' are the places, among the lent, of those that it may keep. -/
theorem Is.goG {f : FuncId} {af : AFn} (h : Is P f af) (hm : P.follows .mixedOrders = true) (hΓ : GS P Γ) (ks os gv : List Nat) {args : List SV} {r : SV} {ext ext' fs : List Ob} (ha : args.length ≤ af.np) (he : ext.length ≤ 1000)
    (hrun : aw Γ ks os af.body (finG af.res ext r ext' fs) (mkEnv ((args.map (SV.tr (nmBy (gvN gv)))).zipIdx.map fun p => (p.2, p.1))) (mkO (ext.zipIdx.map fun p => (gvM gv p.2, some (p.1.tr (nmBy (gvN gv))))))) : PC P f args ext r ext' fs := by
  obtain ⟨fn, c, ann, h1, h2, h3, h4, h5, h6⟩ := h.ex
  refine pc_of_awG (ks := ks) (os := os) h1 h2 h3 hm h4 h5 hΓ (by omega) (by omega) gv ?_
  rw [argE_mk, gvO_mk gv ext he]
  exact hrun

theorem finG_gen {rs : List RV} {ext ext' fs : List Ob} {r : SV} (own : List Nat) {r0 : SV} {out : Out} (h0 : match out with | .exit _ => False | _ => True) (h1 : retA O σ rs = some r0) (h2 : r0.tr (nmF own) = r) (h3 : own.map O = fs.map some) (h4 : own.Nodup) (h5 : (own.all fun n => decide (n < 1000000)) = true) (h6 : fs.all plainOb = true)
    (h7 : (List.range ext.length).map (fun i => if goneAt ext' i = true then none else (O (X i)).map (Ob.tr (nmF own))) = ext'.map fun o => if gone o = true then none else some o) : finG rs ext r ext' fs out σ O := by
  have hl : ext'.length = ext.length := by have := congrArg List.length h7; simpa using this.symm
  refine ⟨h0, own, r0, h1, h2, h3, h4, h5, h6, hl, fun i hi => ?_⟩
  have hi' : i < ext'.length := by omega
  have := congrArg (fun l => l[i]?) h7
  simp only [List.getElem?_map, List.getElem?_range hi, List.getElem?_eq_getElem hi', Option.map_some, Option.some.injEq] at this
  have hg : goneAt ext' i = gone ext'[i] := goneAt_get hi'
  cases hgi : goneAt ext' i with
  | true => exact .inl rfl
  | false =>
    right
    rw [hgi, ← hg, hgi] at this
    simp only [Bool.false_eq_true, if_false] at this
    exact ⟨by rw [this]; simp [hi'], rfl⟩

/-! steps, as equations -/
theorem killE_mk (g : List Nat) (l : List (Nat × SV)) : killE g (mkEnv l) = mkEnv (trP (killL g) l) := by funext i; exact mkEnv_tr _ _ _
def killT (g : List Nat) : List (Nat × Option Ob) → List (Nat × Option Ob)
  | [] => []
  | (k, o) :: r => (k, if g.contains k = true then none else o.map (Ob.tr (killL g))) :: killT g r
theorem killO_mk (g : List Nat) : ∀ m : List (Nat × Option Ob), killO g (mkO m) = mkO (killT g m)
  | [] => by funext i; simp [killO, mkO, killT]
  | (k, o) :: r => by
    funext i
    have ih := congrFun (killO_mk g r) i
    simp only [killO, mkO, killT] at ih ⊢
    by_cases h : i = k
    · subst h; simp
    · simp only [if_neg h]; exact ih
end
end Go.Proofs.YtpobnchalcokoaaDoor.Pam
