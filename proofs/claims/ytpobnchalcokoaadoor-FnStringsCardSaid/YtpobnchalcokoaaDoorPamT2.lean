/- A part of the proof that stands in this folder: a small machine whose steps are shown to be the steps of the model, or walks of functions by it. No condition of its own. -/
import Derived.Test.YtpobnchalcokoaaDoorPamT
set_option linter.unusedVariables false
set_option linter.unusedSimpArgs false
namespace Go.Proofs.YtpobnchalcokoaaDoor.Pam
open Go

/-- The end of a function that may give away what is lent to it: its new objects may have been lent, and what is lent may lead to them. -/
def finG (rs : List RV) (ext : List Ob) (r : SV) (ext' fs : List Ob) : Out → Env → Objs → Prop := fun out σ O =>
  (match out with | .exit _ => False | _ => True) ∧ ∃ own r0, retA O σ rs = some r0 ∧ r0.tr (nmF own) = r ∧ own.map O = fs.map some ∧ own.Nodup ∧ (own.all fun n => decide (n < 1000000)) = true ∧ fs.all plainOb = true ∧
    ext'.length = ext.length ∧ ∀ i, i < ext.length → goneAt ext' i = true ∨ ((O (X i)).map (Ob.tr (nmF own)) = ext'[i]? ∧ goneAt ext' i = false)
theorem nmF_eq (own : List Nat) : nmF own = nmBy (rn own) := by
  funext v
  cases v <;> rfl

section
variable {P : Program} {w w' w0 : World} {S S' S0 : Nat → Prop} {β β' β0 : Nat → Nat} {O0 : Objs} {N : Nat} {O O' : Objs} {σ σ' : Env} {a : Act} {ann : Nat → Option Ann} {Γ : Gam} {Q : Exit → Act → World → Prop} {ks os : List Nat} {tmps : Array Value}

def givenB (gv : List Nat) (n : Nat) : Bool := decide (1000000 ≤ n) && decide (n < 1100000) && gv.contains (n - 1000000)
def ownB (gv : List Nat) (n : Nat) : Bool := decide (900000 ≤ n) && decide (n < 1000000) && gv.contains (n - 900000)
/-- The own name of what is given; the lent keep theirs. -/
def gvN (gv : List Nat) (n : Nat) : Option Nat := if givenB gv n = true then some (n - 100000) else if ownB gv n = true then none else some n
def gvS (gv : List Nat) (n : Nat) : Nat := if ownB gv n = true then n + 100000 else n
def gvO (gv : List Nat) (ext : List Ob) : Objs := fun n => if givenB gv n = true then none else (resO ext [] (gvS gv n)).map (Ob.tr (nmBy (gvN gv)))
theorem given_own {gv : List Nat} {n : Nat} (h : givenB gv n = true) : ownB gv (n - 100000) = true ∧ givenB gv (n - 100000) = false ∧ n - 100000 + 100000 = n := by
  simp only [givenB, Bool.and_eq_true, decide_eq_true_eq] at h
  refine ⟨?_, ?_, by omega⟩
  · simp only [ownB, Bool.and_eq_true, decide_eq_true_eq]
    refine ⟨⟨by omega, by omega⟩, ?_⟩
    rw [show n - 100000 - 900000 = n - 1000000 by omega]; exact h.2
  · simp only [givenB, Bool.and_eq_false_iff, decide_eq_false_iff_not]
    exact .inl (.inl (by omega))
theorem own_given {gv : List Nat} {n : Nat} (h : ownB gv n = true) : givenB gv (n + 100000) = true := by
  simp only [ownB, Bool.and_eq_true, decide_eq_true_eq] at h
  simp only [givenB, Bool.and_eq_true, decide_eq_true_eq]
  refine ⟨⟨by omega, by omega⟩, ?_⟩
  rw [show n + 100000 - 1000000 = n - 900000 by omega]; exact h.2
theorem gvO_get {gv : List Nat} {ext : List Ob} {n : Nat} (h : gvO gv ext n ≠ none) : gvO gv ext n = (resO ext [] (gvS gv n)).map (Ob.tr (nmBy (gvN gv))) ∧ resO ext [] (gvS gv n) ≠ none ∧ givenB gv n = false := by
  unfold gvO at *
  split at h
  · exact absurd rfl h
  · rename_i h1
    rw [if_neg h1]
    exact ⟨rfl, fun e => h (by rw [e]; rfl), by simpa using h1⟩
theorem gvS_inj {gv : List Nat} {n m : Nat} (hn : givenB gv n = false) (hm : givenB gv m = false) (h : gvS gv n = gvS gv m) : n = m := by
  unfold gvS at h
  split at h <;> split at h
  · omega
  · rename_i h1 h2
    have := own_given h1
    rw [h, hm] at this; cases this
  · rename_i h1 h2
    have := own_given h2
    rw [← h, hn] at this; cases this
  · exact h
theorem gv_entry {ext : List Ob} (gv : List Nat) (hr : Rel w S β (resO ext [])) : Step w w S S β (fun n => β (gvS gv n)) (resO ext []) (gvO gv ext) ∧ Rel w S (fun n => β (gvS gv n)) (gvO gv ext) ∧ ∀ {v : SV} {x : Value}, SR w S β (resO ext []) v x → SR w S (fun n => β (gvS gv n)) (gvO gv ext) (v.tr (nmBy (gvN gv))) x := by
  have hν : ∀ m k, gvN gv m = some k → (resO ext [] m = none → gvO gv ext k = none) ∧ ∀ ob, resO ext [] m = some ob → gvO gv ext k = none ∨ ∃ ob', gvO gv ext k = some ob' ∧ likeO ob ob' ∧ β (gvS gv k) = β m := fun m k h => by
    have key : gvO gv ext k = (resO ext [] m).map (Ob.tr (nmBy (gvN gv))) ∧ gvS gv k = m := by
      unfold gvN at h
      split at h
      · rename_i h1
        injection h with h
        obtain ⟨g1, g2, g3⟩ := given_own h1
        have e : gvS gv k = m := by unfold gvS; rw [← h, if_pos g1, g3]
        refine ⟨?_, e⟩
        unfold gvO
        rw [← h, if_neg (by rw [g2]; simp), h, e]
      · split at h
        · cases h
        · rename_i h1 h2
          injection h with h; subst h
          have e : gvS gv m = m := by unfold gvS; rw [if_neg h2]
          refine ⟨?_, e⟩
          unfold gvO
          rw [if_neg h1, e]
    rw [key.1, key.2]
    exact ⟨fun h0 => by rw [h0]; rfl, fun ob hob => .inr ⟨ob.tr (nmBy (gvN gv)), by rw [hob]; rfl, likeO_tr _ _, rfl⟩⟩
  refine ⟨⟨Fr.refl _ _, fun _ h => h, fun _ h => .inl h, fun i => ?_, fun n hn _ => ⟨gvS gv n, (gvO_get hn).2.1, rfl⟩⟩, ⟨fun n hn => hr.live _ (gvO_get hn).2.1, fun n m hn hm he => gvS_inj (gvO_get hn).2.2 (gvO_get hm).2.2 (hr.inj _ _ (gvO_get hn).2.1 (gvO_get hm).2.1 he), fun b hb => ⟨(hr.sep b hb).1, fun n hn => (hr.sep b hb).2 _ (gvO_get hn).2.1⟩, fun n o ho => ?_⟩, fun h => h.tr (fun _ _ h => h) fun v x hv h => nm_leaf hν hv h⟩
  · have : ownB gv (X i) = false := by
      simp only [ownB, Bool.and_eq_false_iff, decide_eq_false_iff_not]
      exact .inl (.inr (by simp only [X]; omega))
    simp only [gvS, this]; rfl
  · obtain ⟨g1, g2, _⟩ := gvO_get (show gvO gv ext n ≠ none by rw [ho]; simp)
    cases hob : resO ext [] (gvS gv n) with
    | none => exact absurd hob g2
    | some ob =>
      rw [hob, ho] at g1
      injection g1 with g1
      rw [g1]
      exact Ob.tr_get (hr.obj _ _ hob) rfl (fun cs _ i hi y h => h.tr (fun _ _ h => h) fun v x hv h => nm_leaf hν hv h) (fun sz xs _ u _ y h => h) fun es _ => ⟨fun e _ y h => h, fun e _ y h => h⟩
/-- A FUNCTION OF THE PROGRAM that may give away what is lent to it. -/
theorem pc_of_awG {f : FuncId} {fn : Func} {c : Code} {af : AFn} (hf : P.funcs[f]? = some fn) (hb : fn.body = some c) (hname : (fn.name == "runtime.NumGoroutine") = false) (hm : P.follows .mixedOrders = true) (hfn : fnOf P ann fn = some af)
    (hdst : codeDst fn.ntmps c = true) (hΓ : GS P Γ) {args : List SV} {ext ext' fs : List Ob} {r : SV} (hargs : args.length ≤ fn.ntmps) (hel : ext.length ≤ 1000000)
    (gv : List Nat) (hrun : aw Γ ks os af.body (finG af.res ext r ext' fs) (argE (args.map (SV.tr (nmBy (gvN gv))))) (gvO gv ext)) : PC P f args ext r ext' fs := by
  refine ⟨⟨fn, hf, by rw [hb]; rfl, hname⟩, fun w S β vals hr hsz hv => ?_⟩
  unfold fnOf at hfn
  rw [hb] at hfn
  simp only at hfn
  cases hc : codeOf P ann c with
  | none => simp [hc] at hfn
  | some body =>
    cases hres : rvsOf P fn.results.toList with
    | none => simp [hc, hres] at hfn
    | some rs =>
      simp [hc, hres] at hfn; subst hfn
      refine calls_of_wp hf hb ?_
      obtain ⟨hst0, hr1, htr⟩ := gv_entry gv hr
      refine aw_sound (w0 := w) (S0 := S) (β0 := β) (O0 := resO ext []) (N := fn.ntmps) hΓ hm c hc hdst hrun ⟨S, _, hst0, hr1, fun i => ?_, rfl, by simp; omega⟩ fun out σ O a w' hfin hat => ?_
      · rw [argsE_at]
        by_cases hi : i < args.length
        · have := hv i hi
          have hi' : i < (args.map (SV.tr (nmBy (gvN gv)))).length := by simpa using hi
          simp only [List.getElem?_eq_getElem hi', Option.getD_some, List.getElem_map]
          have e : (vals ++ Array.replicate (fn.ntmps - vals.size) undef).getD i undef = vals.getD i undef := by
            simp [Array.getElem?_append, show i < vals.size by omega]
          simp only [e]; exact htr this
        · rw [List.getElem?_eq_none (by simp; omega)]; exact .junk _
      · obtain ⟨hout, own, r0, hret, hr0, hown, hnd, hlow, hplain, hlen, hext⟩ := hfin
        obtain ⟨S', β', hst, hrel, hsl, hdef, _⟩ := hat
        obtain ⟨y, hy, hsy⟩ := ret_rel hrel hsl hres hret
        have hol : own.length = fs.length := by simpa using congrArg List.length hown
        have hlow' : ∀ n ∈ own, n < 1000000 := by simpa using hlow
        have hsF : ∀ j (h : j < own.length), srcN own (F j) = own[j] := fun j h => by
          have e : F j - 2000000 = j := by simp only [F]; omega
          have e2 : 2000000 ≤ F j := by simp only [F]; omega
          simp only [srcN, if_pos e2, e]; simp [h]
        have hsX : ∀ n, n < 2000000 → srcN own n = n := fun n h => by simp [srcN]; omega
        have hXlt : ∀ i, i < ext.length → X i < 2000000 := fun i h => by simp only [X]; omega
        have hlent : ∀ n, resO ext [] n ≠ none → ∃ i, i < ext.length ∧ n = X i := fun n hn => by
          rcases resO_inv hn with ⟨i, h, e, _⟩ | ⟨j, h, _⟩
          · exact ⟨i, h, e⟩
          · simp at h
        have hget : ∀ n, resG ext' fs n ≠ none → resG ext' fs n = (O (srcN own n)).map (Ob.tr (nmF own)) ∧ O (srcN own n) ≠ none := fun n hn => by
          rcases resG_inv hn with ⟨j, hj, rfl⟩ | ⟨i, hi, rfl, hlt, hg⟩
          · obtain ⟨h3, h4⟩ := fs_get hown (j := j) (by omega)
            rw [hsF j (by omega), h4, resG_F]
            have hpl : plainOb fs[j] = true := List.all_eq_true.1 hplain _ (List.getElem_mem hj)
            simp [hj, plain_tr hpl]
          · rw [hsX _ hlt]
            rcases hext i (by omega) with h | ⟨h, _⟩
            · rw [h] at hg; cases hg
            · rw [resG_X (by omega) hg] at hn ⊢
              refine ⟨h.symm, fun h0 => ?_⟩
              rw [h0] at h; rw [← h] at hn; exact hn rfl
        have hinj : ∀ n m, resG ext' fs n ≠ none → resG ext' fs m ≠ none → srcN own n = srcN own m → n = m := fun n m hn hm he => by
          have cross : ∀ j i, j < fs.length → i < ext'.length → X i < 2000000 → goneAt ext' i = false → srcN own (F j) = srcN own (X i) → False := fun j i hj hi hlt hg he => by
            rw [hsF j (by omega), hsX _ hlt] at he
            have h := hlow' own[j] (List.getElem_mem _)
            rw [he] at h; simp only [X] at h; omega
          rcases resG_inv hn with ⟨j, hj, rfl⟩ | ⟨i, hi, rfl, hlt, hg⟩ <;> rcases resG_inv hm with ⟨k, hk, rfl⟩ | ⟨i', hi', rfl, hlt', hg'⟩
          · rw [hsF j (by omega), hsF k (by omega)] at he
            rw [(List.getElem_inj hnd).1 he]
          · exact (cross j i' hj hi' hlt' hg' he).elim
          · exact (cross k i hk hi hlt hg he.symm).elim
          · rw [hsX _ hlt, hsX _ hlt'] at he; exact he
        have hν : ∀ m k, rn own m = some k → (O m = none → resG ext' fs k = none) ∧ ∀ ob, O m = some ob → resG ext' fs k = none ∨ ∃ ob', resG ext' fs k = some ob' ∧ likeO ob ob' ∧ β' (srcN own k) = β' m := fun m k h => by
          unfold rn at h
          split at h
          · rename_i j hj
            injection h with h; subst h
            obtain ⟨h1, h2⟩ := findIdx_own hj
            obtain ⟨h3, h4⟩ := fs_get hown h1
            rw [h2] at h4
            refine ⟨fun h0 => (by rw [h4] at h0; cases h0), fun ob hob => .inr ⟨fs[j], by rw [resG_F]; simp [h3], ?_, by rw [hsF j h1, h2]⟩⟩
            rw [h4] at hob; injection hob with hob; rw [hob]; exact likeO_refl _
          · split at h
            · rename_i h1
              injection h with h; subst h
              have e : srcN own m = m := hsX m h1.2
              by_cases h0 : resG ext' fs m = none
              · exact ⟨fun _ => h0, fun _ _ => .inl h0⟩
              · obtain ⟨g1, g2⟩ := hget m h0
                rw [e] at g1 g2
                refine ⟨fun hn => absurd hn g2, fun ob hob => .inr ⟨ob.tr (nmF own), by rw [g1, hob]; rfl, likeO_tr _ _, by rw [e]⟩⟩
            · cases h
        have hR : ∃ v S2 β2, Ending.returned y = .returned v ∧ Fr w w' (fun b => ∃ n, resO ext [] n ≠ none ∧ β n = b) ∧ (∀ b, S b → S2 b) ∧ (∀ b, S2 b → S b ∨ w.heap.size ≤ b ∨ ∃ i, i < ext.length ∧ b = β (X i)) ∧ (∀ i, i < ext.length → β2 (X i) = β (X i)) ∧
            (∀ j, j < fs.length → w.heap.size ≤ β2 (F j) ∨ ∃ i, i < ext.length ∧ β2 (F j) = β (X i)) ∧ ext'.length = ext.length ∧ Rel w' S2 β2 (resG ext' fs) ∧ SR w' S2 β2 (resG ext' fs) r v := by
          refine ⟨y, S', fun n => β' (srcN own n), rfl, hst.fr, hst.up, fun b hb => ?_, fun i hi => ?_, fun j hj => ?_, hlen, ?_, ?_⟩
          · rcases hst.new b hb with h | ⟨n, h1, h2⟩ | ⟨h1, _⟩
            · exact .inl h
            · obtain ⟨i, hi, rfl⟩ := hlent n h1
              exact .inr (.inr ⟨i, hi, h2.symm⟩)
            · exact .inr (.inl h1)
          · simp only [hsX _ (hXlt i hi)]; exact hst.ext i
          · simp only [hsF j (by omega)]
            obtain ⟨h3, h4⟩ := fs_get hown (j := j) (by omega)
            rcases Nat.lt_or_ge (β' own[j]) w.heap.size with h | h
            · obtain ⟨m, h5, h6⟩ := hst.old own[j] (by rw [h4]; simp) h
              obtain ⟨i, hi, rfl⟩ := hlent m h5
              exact .inr ⟨i, hi, h6⟩
            · exact .inl h
          · refine ⟨fun n hn => hrel.live _ (hget n hn).2, fun n m hn hm he => hinj n m hn hm (hrel.inj _ _ (hget n hn).2 (hget m hm).2 he), fun b hb => ⟨(hrel.sep b hb).1, fun n hn => (hrel.sep b hb).2 _ (hget n hn).2⟩, fun n o ho => ?_⟩
            obtain ⟨g1, g2⟩ := hget n (by rw [ho]; simp)
            cases hob : O (srcN own n) with
            | none => exact absurd hob g2
            | some ob =>
              rw [hob, ho] at g1
              injection g1 with g1
              rw [g1, nmF_eq]
              exact Ob.tr_get (hrel.obj _ _ hob) rfl (fun cs _ i hi y h => h.tr (fun _ _ h => h) fun v x hv h => nm_leaf hν hv h) (fun sz xs _ u _ y h => h) fun es _ => ⟨fun e _ y h => h, fun e _ y h => h⟩
          · rw [← hr0, nmF_eq]
            exact hsy.tr (fun _ _ h => h) fun v x hv h => nm_leaf hν hv h
        cases out with
        | norm => exact ⟨hdef, y, hy, hR⟩
        | ret => exact ⟨hdef, y, hy, hR⟩
        | exit id => exact hout.elim
end
end Go.Proofs.YtpobnchalcokoaaDoor.Pam
