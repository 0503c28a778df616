/- A part of the proof that stands in this folder: a small machine whose steps are shown to be the steps of the model, or walks of functions by it. No condition of its own. -/
import Derived.Test.YtpobnchalcokoaaDoorPamZ1
set_option linter.unusedVariables false
set_option linter.unusedSimpArgs false
namespace Go.Proofs.YtpobnchalcokoaaDoor.Pam
open Go

/-! lists beside which something is told, and whole lists apart from it, as plain ones -/
def PV.un1 : PV → PV
  | .li _ xs => .sl 1 xs
  | .wh _ xs => .sl 1 xs
  | v => v
def PV.un : PV → PV
  | .agg cs => .agg (cs.map PV.un1)
  | .cp cs => .cp (cs.map PV.un1)
  | .li _ xs => .sl 1 xs
  | .wh _ xs => .sl 1 xs
  | v => v
def SV.un' : SV → SV
  | .p v => .p v.un
  | v => v
/-- A contract for arguments of which more is known. -/
def unC (c : Con) : Con := fun args ext => c (args.map SV.un') ext

section
variable {P : Program} {w w' : World} {S S' : Nat → Prop} {β β' : Nat → Nat} {O O' : Objs} {Γ : Gam} {ks os : List Nat} {f : FuncId} {af : AFn}

theorem PR.li_inv {A : Nat → Prop} {xs : List PV} {x : Value} (h : PR w S (.li A xs) x) : ∃ b off cap, x = .slice (some ⟨b, off, none⟩) xs.length cap ∧ xs.length ≤ cap ∧ (∀ b, A b → S b) ∧ S b ∧ ∀ i (hi : i < xs.length), ∃ k n, xs[i] = .int k n ∧ w.cell? ⟨b, off + i, none⟩ = some (.int k n) := by
  cases h with
  | li _ _ b off len cap hl hcap hS hA hc => subst hl; exact ⟨b, off, cap, rfl, hcap, hS, hA, hc⟩
theorem PR.wh_inv {A : Nat → Prop} {xs : List PV} {x : Value} (h : PR w S (.wh A xs) x) : ∃ b cap c ty, x = .slice (some ⟨b, 0, none⟩) xs.length cap ∧ xs.length ≤ cap ∧ S b ∧ ¬ A b ∧ w.heap[b]? = some (.cells c ty (0, 0)) ∧ cap ≤ c.size ∧ ∀ i (hi : i < xs.length), ∃ k n, xs[i] = .int k n ∧ c.getD i undef = .int k n := by
  cases h with
  | wh _ _ b len cap c ty hl hcap hS hA hb hcs h => subst hl; exact ⟨b, cap, c, ty, rfl, hcap, hS, hA, hb, hcs, h⟩
theorem PR.sl_inv' {sz : Nat} {xs : List PV} {x : Value} (h : PR w S (.sl sz xs) x) : ∃ b off cap, ∃ vals : Nat → Value, x = .slice (some ⟨b, off, none⟩) xs.length cap ∧ xs.length ≤ cap ∧ S b ∧ (∀ x ∈ xs, x.cells.length = sz) ∧ (∀ i, i < (flat xs).length → w.cell? ⟨b, off + i, none⟩ = some (vals i)) ∧ ∀ i (hi : i < (flat xs).length), PR w S (flat xs)[i] (vals i) := by
  cases h with
  | sl _ _ b off len cap vals hl hcap hS hsz hc h => subst hl; exact ⟨b, off, cap, vals, rfl, hcap, hS, hsz, hc, h⟩
theorem allInt_of {xs : List PV} {p : Nat → IntKind → Int → Prop} (h : ∀ i (hi : i < xs.length), ∃ k n, xs[i] = .int k n ∧ p i k n) : xs.all PV.isInt = true := by
  rw [List.all_eq_true]
  intro x hx
  obtain ⟨i, hi, rfl⟩ := List.getElem_of_mem hx
  obtain ⟨k, n, e, _⟩ := h i hi
  rw [e]; rfl
/-- A list of numbers in memory. -/
theorem PR.sl_ints {xs : List PV} {b off cap : Nat} (hcap : xs.length ≤ cap) (hS : S b) (h : ∀ i (hi : i < xs.length), ∃ k n, xs[i] = .int k n ∧ w.cell? ⟨b, off + i, none⟩ = some (.int k n)) : PR w S (.sl 1 xs) (.slice (some ⟨b, off, none⟩) xs.length cap) := by
  have hf := flat_allInt (allInt_of h)
  refine .sl 1 xs b off _ cap (fun i => (w.cell? ⟨b, off + i, none⟩).getD undef) rfl hcap hS (fun x hx => ?_) (fun i hi => ?_) fun i hi => ?_
  · obtain ⟨i, hi, rfl⟩ := List.getElem_of_mem hx
    obtain ⟨k, n, e, _⟩ := h i hi
    rw [e]; rfl
  · rw [hf] at hi
    obtain ⟨k, n, e, e2⟩ := h i hi
    simp only [e2]; rfl
  · have hi' : i < xs.length := by rw [hf] at hi; exact hi
    obtain ⟨k, n, e, e2⟩ := h i hi'
    have e3 : (flat xs)[i] = .int k n := by rw [← e]; simp only [hf]
    rw [e3]
    simp only [e2, Option.getD_some]
    exact .int k n
theorem PR.li_sl {A : Nat → Prop} {xs : List PV} {x : Value} (h : PR w S (.li A xs) x) : PR w S (.sl 1 xs) x := by
  obtain ⟨b, off, cap, rfl, h1, h2, h3, h4⟩ := h.li_inv
  exact .sl_ints h1 h3 h4
theorem PR.wh_sl {A : Nat → Prop} {xs : List PV} {x : Value} (h : PR w S (.wh A xs) x) : PR w S (.sl 1 xs) x := by
  obtain ⟨b, cap, c, ty, rfl, h1, h2, h3, h4, h5, h6⟩ := h.wh_inv
  refine .sl_ints h1 h2 fun i hi => ?_
  obtain ⟨k, n, e, e2⟩ := h6 i hi
  refine ⟨k, n, e, ?_⟩
  have hlt : i < c.size := by omega
  simp only [World.cell?, h4, Nat.zero_add]
  simp [hlt] at e2 ⊢
  exact e2
theorem PR.sl_li {A : Nat → Prop} {xs : List PV} {x : Value} (hx : xs.all PV.isInt = true) (hA : ∀ b, A b → S b) (h : PR w S (.sl 1 xs) x) : PR w S (.li A xs) x := by
  obtain ⟨b, off, cap, vals, rfl, h1, h2, h3, h4, h5⟩ := h.sl_inv'
  have hf := flat_allInt hx
  refine .li A xs b off _ cap rfl h1 hA h2 fun i hi => ?_
  have hi' : i < (flat xs).length := by rw [hf]; exact hi
  have hp := h5 i hi'
  have hc := h4 i hi'
  have e3 : (flat xs)[i] = xs[i] := by simp only [hf]
  rw [e3] at hp
  have hxi := (List.all_eq_true.1 hx) xs[i] (List.getElem_mem hi)
  cases hx0 : xs[i] with
  | int k n => rw [hx0] at hp; rw [hp.int_inv'] at hc; exact ⟨k, n, rfl, hc⟩
  | _ => rw [hx0] at hxi; simp [PV.isInt] at hxi
theorem PR.un1 {v : PV} {x : Value} (h : PR w S v x) : PR w S v.un1 x := by
  cases v with
  | li A xs => exact h.li_sl
  | wh A xs => exact h.wh_sl
  | _ => exact h
theorem PR.agg_inv' {cs : List PV} {x : Value} (h : PR w S (.agg cs) x) : ∃ vs, x = .agg vs ∧ vs.size = cs.length ∧ ∀ i (hi : i < cs.length), PR w S cs[i] (vs.getD i undef) := by
  cases h with | agg _ vs hn h => exact ⟨vs, rfl, hn, h⟩
theorem PR.un {v : PV} {x : Value} (h : PR w S v x) : PR w S v.un x := by
  cases v with
  | li A xs => exact h.li_sl
  | wh A xs => exact h.wh_sl
  | agg cs =>
    obtain ⟨vs, rfl, hn, h⟩ := h.agg_inv'
    refine .agg _ vs (by simpa using hn) fun i hi => ?_
    simp only [List.getElem_map]
    exact (h i (by simpa using hi)).un1
  | cp cs =>
    cases h with
    | cp _ b off vals hS hc h =>
      refine .cp _ b off vals hS (fun i hi => hc i (by simpa using hi)) fun i hi => ?_
      simp only [List.getElem_map]
      exact (h i (by simpa using hi)).un1
  | _ => exact h
theorem SR.un' {v : SV} {x : Value} (h : SR w S β O v x) : SR w S β O v.un' x := by
  cases v with
  | p v => exact .p _ _ h.p_inv.un
  | _ => exact h

theorem Says.un {c : Con} (h : Says P f c) : Says P f (unC c) := by
  intro args ext r ext' fs he
  have hp := h (args.map SV.un') ext r ext' fs he
  refine ⟨hp.1, fun w S β vals hr hsz hv => hp.2 w S β vals hr (by simpa using hsz) fun i hi => ?_⟩
  simp only [List.getElem_map]
  exact (hv i (by simpa using hi)).un'

/-- A function that is called with a list of numbers beside which something is told. -/
theorem Is.goW1 (h : Is P f af) (hm : P.follows .mixedOrders = true) (hΓ : GS P Γ) (ks os : List Nat) {A : Nat → Prop} {xs : List PV} {r : SV} {fs : List Ob} (ha : 1 ≤ af.np)
    (hrun : aw Γ ks os af.body (finA af.res [] r [] fs) (mkEnv [(0, .p (.sl 1 xs)), (49000, .p (.tok A))]) (mkO [])) : PC P f [.p (.li A xs)] [] r [] fs := by
  obtain ⟨fn, c, ann, h1, h2, h3, h4, h5, h6⟩ := h.ex
  refine pc_of_awS (ks := ks) (os := os) (Γ := Γ) h1 h2 h3 hm h4 h5 hΓ (by simp) (σ0 := mkEnv [(0, .p (.sl 1 xs)), (49000, .p (.tok A))]) (fun w S β vals n hsz hv i => ?_) (by simp; omega) (by rw [resO_nil']; exact hrun)
  simp only [List.length_singleton] at hsz hv
  have h0 := hv 0 (by omega)
  simp only [List.getElem_cons_zero] at h0
  have hin := h0.p_inv
  obtain ⟨_, _, _, _, _, hA, _⟩ := hin.li_inv
  have hge : ∀ i, 1 ≤ i → (vals ++ Array.replicate n undef).getD i undef = undef := fun i hi => by
    rw [Array.getD_eq_getD_getElem?, Array.getElem?_append, if_neg (by omega), Array.getElem?_replicate]
    split <;> rfl
  by_cases hi : i = 0
  · subst hi
    have e : (vals ++ Array.replicate n undef).getD 0 undef = vals.getD 0 undef := by
      simp [Array.getElem?_append, show 0 < vals.size by omega]
    rw [e]
    simp only [mkEnv, if_true]
    exact .p _ _ hin.li_sl
  · simp only [mkEnv, if_neg hi]
    by_cases hi2 : i = 49000
    · rw [if_pos hi2, hi2, hge 49000 (by omega)]
      exact .p _ _ (.tok A hA)
    · rw [if_neg hi2]
      exact .junk _

theorem PC.of_li {xs : List PV} {r : SV} {fs : List Ob} (hx : xs.all PV.isInt = true) (h : ∀ A, PC P f [.p (.li A xs)] [] r [] fs) : PC P f [.p (.sl 1 xs)] [] r [] fs := by
  refine ⟨(h fun _ => False).1, fun w S β vals hr hsz hv => (h S).2 w S β vals hr hsz fun i hi => ?_⟩
  have hi0 : i = 0 := by simp at hi; exact hi
  subst hi0
  have := hv 0 (by simp)
  simp only [List.getElem_cons_zero] at this ⊢
  exact .p _ _ (this.p_inv.sl_li hx fun _ h => h)

/-- A WHOLE LIST of its own is the caller's. -/
theorem PC.whole {xs ys : List PV} {s : PV} (hx : xs.all PV.isInt = true) (hs : s.scal = true) (h : ∀ A, PC P f [.p (.li A xs)] [] (.tp [.p (.wh A ys), .p s]) [] []) : PC P f [.p (.sl 1 xs)] [] (.tp [.ar (F 0), .p s]) [] [.arr 1 ys] := by
  refine ⟨(h fun _ => False).1, fun w S β vals hr hsz hv => ?_⟩
  refine ((h S).2 w S β vals hr hsz fun i hi => ?_).mono fun e w' ⟨v, S', β', he, hfr, hup, hnew, _, _, _, hrel, hsr⟩ => ?_
  · have hi0 : i = 0 := by simp at hi; exact hi
    subst hi0
    have := hv 0 (by simp)
    simp only [List.getElem_cons_zero] at this ⊢
    exact .p _ _ (this.p_inv.sl_li hx fun _ h => h)
  · obtain ⟨vs, rfl, hvs, hel⟩ := hsr.tp_inv
    have e0 := hel 0 (by simp)
    have e1 := hel 1 (by simp)
    simp only [List.getElem_cons_zero, List.getElem_cons_succ] at e0 e1
    obtain ⟨b, cap, c, ty, ex, hcap, hSb, hAb, hb, hcs, hcells⟩ := e0.p_inv.wh_inv
    have hbge : w.heap.size ≤ b := by
      rcases hnew b hSb with h | h | ⟨i, hi, _⟩
      · exact absurd h hAb
      · exact h
      · simp at hi
    have hblt := (hrel.sep b hSb).1
    have hO : ∀ n, resG [] [.arr 1 ys] n ≠ none → n = F 0 := fun n hn => by
      unfold resG at hn
      by_cases h2 : 2000000 ≤ n
      · simp only [if_pos h2] at hn
        simp only [F]
        rcases Nat.lt_or_ge (n - 2000000) 1 with h | h
        · omega
        · exact absurd (List.getElem?_eq_none (by simpa using h)) hn
      · simp only [if_neg h2] at hn
        by_cases h1 : 1000000 ≤ n <;> simp [h1, liveO] at hn
    have hO0 : resG [] [.arr 1 ys] (F 0) = some (.arr 1 ys) := rfl
    have hall := allInt_of hcells
    have hf := flat_allInt hall
    refine ⟨_, S, fun n => if n = F 0 then b else β n, he, hfr, fun _ h => h, fun _ h => .inl h, fun i hi => by simp at hi, fun j hj => ?_, rfl, ⟨fun n hn => ?_, fun n m hn hm _ => (hO n hn).trans (hO m hm).symm, fun k hk => ⟨(hrel.sep k (hup k hk)).1, fun n hn => ?_⟩, fun n o ho => ?_⟩, ?_⟩
    · have : j = 0 := by simp at hj; exact hj
      subst this
      exact .inl (by simpa using hbge)
    · rw [hO n hn]; simpa using hblt
    · rw [hO n hn]; simp only [if_true]; intro e; subst e; exact hAb hk
    · have hn := hO n (by rw [ho]; simp)
      subst hn
      rw [hO0] at ho
      injection ho with ho; subst ho
      refine ⟨c, ty, by simpa using hb, fun x hx => ?_, by rw [hf]; omega, fun i hi => ?_⟩
      · obtain ⟨i, hi, rfl⟩ := List.getElem_of_mem hx
        obtain ⟨k, n, e, _⟩ := hcells i hi
        rw [e]; rfl
      · have hi' : i < ys.length := by rw [hf] at hi; exact hi
        obtain ⟨k, n, e, e2⟩ := hcells i hi'
        have e3 : (flat ys)[i] = .int k n := by rw [← e]; simp only [hf]
        rw [e3, e2]
        exact .int k n
    · refine .tp _ vs hvs fun i hi => ?_
      match i, hi with
      | 0, _ =>
        simp only [List.getElem_cons_zero]
        rw [ex]
        have := SR.ar (w := w') (S := S) (β := fun n => if n = F 0 then b else β n) (O := resG [] [.arr 1 ys]) (F 0) 1 cap ys hO0 hcap (by simp only [if_true]; rw [bsz_cells hb]; omega)
        simpa using this
      | 1, _ =>
        simp only [List.getElem_cons_succ, List.getElem_cons_zero]
        exact .p _ _ (PR.scal_any s hs e1.p_inv)
end
end Go.Proofs.YtpobnchalcokoaaDoor.Pam
