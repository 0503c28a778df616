/- A part of the proof that stands in this folder: a small machine whose steps are shown to be the steps of the model, or walks of functions by it. No condition of its own. -/
import Derived.Test.YtpobnchalcokoaaDoorPamS
set_option linter.unusedVariables false
set_option linter.unusedSimpArgs false
namespace Go.Proofs.YtpobnchalcokoaaDoor.Pam
open Go

section
variable {P : Program} {w w' w0 : World} {S S' S0 : Nat → Prop} {β β' β0 : Nat → Nat} {O0 : Objs} {N : Nat} {O O' : Objs} {σ σ' : Env} {a : Act} {ann : Nat → Option Ann} {Γ : Gam} {Q : Exit → Act → World → Prop} {ks os : List Nat} {tmps : Array Value}

/-- A reference under another name. -/
theorem leaf_name {m k : Nat} (hO : O' k = O m) (hβ : β' k = β m) {x : Value} :
    (SR w S β O (.ar m) x → SR w S β' O' (.ar k) x) ∧ (∀ lo hi, SR w S β O (.sub m lo hi) x → SR w S β' O' (.sub k lo hi) x) ∧ (∀ o, SR w S β O (.bx m o) x → SR w S β' O' (.bx k o) x) ∧
    (∀ i j, SR w S β O (.el m i j) x → SR w S β' O' (.el k i j) x) ∧ (SR w S β O (.mp m) x → SR w S β' O' (.mp k) x) := by
  refine ⟨fun h => ?_, fun lo hi h => ?_, fun o h => ?_, fun i j h => ?_, fun h => ?_⟩
  · cases h with
    | ar n sz cap xs ho hl hc => rw [← hβ]; exact .ar k sz cap xs (by rw [hO]; exact ho) hl (by rw [hβ]; exact hc)
    | dead v n x hr hv ho => simp only [SV.refs, List.cons.injEq, and_true] at hv; subst hv; exact .dead _ k _ rfl rfl (by rw [hO]; exact ho)
  · cases h with
    | sub n sz lo hi o cap xs ho h1 h2 h3 h4 => rw [← hβ]; exact .sub k sz lo hi o cap xs (by rw [hO]; exact ho) h1 h2 h3 h4
    | dead v n x hr hv ho => simp only [SV.refs, List.cons.injEq, and_true] at hv; subst hv; exact .dead _ k _ rfl rfl (by rw [hO]; exact ho)
  · cases h with
    | bx n off cs ho => rw [← hβ]; exact .bx k o cs (by rw [hO]; exact ho)
    | dead v n x hr hv ho => simp only [SV.refs, List.cons.injEq, and_true] at hv; subst hv; exact .dead _ k _ rfl rfl (by rw [hO]; exact ho)
  · cases h with
    | el n sz i j xs ho hi => rw [← hβ]; exact .el k sz i j xs (by rw [hO]; exact ho) hi
    | dead v n x hr hv ho => simp only [SV.refs, List.cons.injEq, and_true] at hv; subst hv; exact .dead _ k _ rfl rfl (by rw [hO]; exact ho)
  · cases h with
    | mp n es ho => rw [← hβ]; exact .mp k es (by rw [hO]; exact ho)
    | dead v n x hr hv ho => simp only [SV.refs, List.cons.injEq, and_true] at hv; subst hv; exact .dead _ k _ rfl rfl (by rw [hO]; exact ho)

theorem argsE_at (args : List SV) (i : Nat) : argE args i = (args[i]?).getD .junk := by simp [argE]

theorem findIdx_own {own : List Nat} {m j : Nat} (h : own.findIdx? (· == m) = some j) : ∃ hj : j < own.length, own[j] = m := by
  have := List.findIdx?_eq_some_iff_getElem.1 h
  obtain ⟨h1, h2, _⟩ := this
  exact ⟨h1, by simpa using h2⟩

theorem fs_get {own : List Nat} {fs : List Ob} (h : own.map O = fs.map some) {j : Nat} (hj : j < own.length) : ∃ hj' : j < fs.length, O own[j] = some fs[j] := by
  have hl : own.length = fs.length := by simpa using congrArg List.length h
  have := congrArg (fun l => l[j]?) h
  simp only [List.getElem?_map] at this
  refine ⟨by omega, ?_⟩
  simpa [hj, show j < fs.length by omega] using this

/-- Which object of the function is meant by a name of the caller. -/
def srcN (own : List Nat) (n : Nat) : Nat := if 2000000 ≤ n then own.getD (n - 2000000) 0 else n

/-- A FUNCTION OF THE PROGRAM, by this machine. -/
theorem pc_of_awH {f : FuncId} {fn : Func} {c : Code} {af : AFn} (hf : P.funcs[f]? = some fn) (hb : fn.body = some c) (hname : (fn.name == "runtime.NumGoroutine") = false) (hfn : fnOf P ann fn = some af)
     {args : List SV} {ext ext' fs : List Ob} {r : SV} (hel : ext.length ≤ 1000000) {σ0 : (Nat → Prop) → Env}
    (hσ : ∀ (w : World) (S : Nat → Prop) (β : Nat → Nat) (vals : Array Value) (n : Nat), vals.size = args.length → (∀ i (hi : i < args.length), SR w S β (resO ext []) args[i] (vals.getD i undef)) → Slots w S β (resO ext []) (σ0 S) (vals ++ Array.replicate n undef))
    (hnt : args.length ≤ fn.ntmps)
    (hgo : codeOf P ann c = some af.body → ∀ (w : World) (S : Nat → Prop) (β : Nat → Nat) {Q : Exit → Act → World → Prop} {a : Act}, At w S β (resO ext []) fn.ntmps (σ0 S) (resO ext []) a w →
      (∀ out σ O a w', finA af.res ext r ext' fs out σ O → At w S β (resO ext []) fn.ntmps σ O a w' → Q out.exit' a w') → c.wp P Q a w) : PC P f args ext r ext' fs := by
  refine ⟨⟨fn, hf, by rw [hb]; rfl, hname⟩, fun w S β vals hr hsz hv => ?_⟩
  unfold fnOf at hfn
  rw [hb] at hfn
  simp only at hfn
  cases hc : codeOf P ann c with
  | none => simp [hc] at hfn
  | some body =>
    cases hres : rvsOf P fn.results.toList with
    | none => simp [hc, hres] at hfn
    | some rs =>
      simp [hc, hres] at hfn; subst hfn
      refine calls_of_wp hf hb ?_
      refine hgo hc w S β ⟨S, β, Step.refl _ _ _ _, hr, hσ w S β vals _ hsz hv, rfl, by simp; omega⟩ fun out σ O a w' hfin hat => ?_
      · obtain ⟨hout, own, r0, hret, hr0, hown, hnd, hlow, hplain, hlen, hext, hbx⟩ := hfin
        obtain ⟨S', β', hst, hrel, hsl, hdef, _⟩ := hat
        obtain ⟨y, hy, hsy⟩ := ret_rel hrel hsl hres hret
        have hol : own.length = fs.length := by simpa using congrArg List.length hown
        have hlow' : ∀ n ∈ own, n < 1000000 := by simpa using hlow
        have hR : ∃ v S2 β2, Ending.returned y = .returned v ∧ Fr w w' (fun b => ∃ n, resO ext [] n ≠ none ∧ β n = b) ∧ (∀ b, S b → S2 b) ∧ (∀ b, S2 b → S b ∨ w.heap.size ≤ b ∨ ∃ i, i < ext.length ∧ b = β (X i)) ∧ (∀ i, i < ext.length → β2 (X i) = β (X i)) ∧
            (∀ j, j < fs.length → w.heap.size ≤ β2 (F j) ∨ ∃ i, i < ext.length ∧ β2 (F j) = β (X i)) ∧ ext'.length = ext.length ∧ Rel w' S2 β2 (resG ext' fs) ∧ SR w' S2 β2 (resG ext' fs) r v := by
          have hsrc : ∀ n, resO ext' fs n ≠ none → resO ext' fs n = O (srcN own n) ∧ (2000000 ≤ n → srcN own n ∈ own) ∧ (n < 2000000 → srcN own n = n ∧ 1000000 ≤ n ∧ n - 1000000 < ext.length) := fun n hn => by
            unfold resO at hn ⊢
            by_cases h2 : 2000000 ≤ n
            · simp only [if_pos h2] at hn ⊢
              have hj : n - 2000000 < fs.length := by
                rcases Nat.lt_or_ge (n - 2000000) fs.length with h | h
                · exact h
                · exact absurd (List.getElem?_eq_none h) hn
              obtain ⟨_, he⟩ := fs_get hown (j := n - 2000000) (by omega)
              have e : srcN own n = own[n - 2000000]'(by omega) := by simp [srcN, h2, show n - 2000000 < own.length by omega]
              rw [e, he]
              exact ⟨by simp [hj], fun _ => List.getElem_mem _, fun h => by omega⟩
            · simp only [if_neg h2] at hn ⊢
              by_cases h1 : 1000000 ≤ n
              · simp only [if_pos h1] at hn ⊢
                have hj : n - 1000000 < ext'.length := by
                  rcases Nat.lt_or_ge (n - 1000000) ext'.length with h | h
                  · exact h
                  · exact absurd (List.getElem?_eq_none h) hn
                have e : srcN own n = n := by simp [srcN, h2]
                have := hext (n - 1000000) (by omega)
                rw [e]
                refine ⟨?_, fun h => by omega, fun _ => ⟨rfl, h1, by omega⟩⟩
                have e3 : X (n - 1000000) = n := by simp only [X]; omega
                rw [← this, e3]
              · simp [h1] at hn
          have hXl : ∀ i, i < ext.length → resO ext' fs (X i) = O (X i) := fun i hi => by
            have : X i < 2000000 ∧ 1000000 ≤ X i ∧ X i - 1000000 = i := by simp only [X]; omega
            unfold resO
            rw [if_neg (by omega), if_pos this.2.1, this.2.2]
            exact (hext i hi).symm
          have hXn : ∀ i, i < ext.length → O (X i) ≠ none := fun i hi => by rw [hext i hi]; simp [show i < ext'.length by omega]
          have hXβ : ∀ i, i < ext.length → β' (srcN own (X i)) = β (X i) := fun i hi => by
            have : ¬ 2000000 ≤ X i := by simp only [X]; omega
            simp only [srcN, if_neg this]; exact hst.ext i
          have hinj : ∀ n m, resO ext' fs n ≠ none → resO ext' fs m ≠ none → srcN own n = srcN own m → n = m := fun n m hn hm he => by
            obtain ⟨_, a1, a2⟩ := hsrc n hn
            obtain ⟨_, b1, b2⟩ := hsrc m hm
            rcases Nat.lt_or_ge n 2000000 with h | h <;> rcases Nat.lt_or_ge m 2000000 with h' | h'
            · rw [(a2 h).1, (b2 h').1] at he; exact he
            · have := hlow' _ (b1 h'); rw [← he, (a2 h).1] at this; have := (a2 h).2.1; omega
            · have := hlow' _ (a1 h); rw [he, (b2 h').1] at this; have := (b2 h').2.1; omega
            · have hj : ∀ n, 2000000 ≤ n → resO ext' fs n ≠ none → n - 2000000 < own.length := fun n h hn => by
                unfold resO at hn
                simp only [if_pos h] at hn
                rcases Nat.lt_or_ge (n - 2000000) fs.length with h | h
                · omega
                · exact absurd (List.getElem?_eq_none h) hn
              have h3 := hj n h hn
              have h4 := hj m h' hm
              simp only [srcN, if_pos h, if_pos h'] at he
              simp only [List.getD_eq_getElem?_getD, List.getElem?_eq_getElem h3, List.getElem?_eq_getElem h4, Option.getD_some] at he
              have := (List.getElem_inj hnd).1 he
              omega
          have hbox : ∀ {v : SV} {x : Value}, (∀ n ∈ v.refs, n < 2000000) → SR w' S' β' O v x → SR w' S' (fun n => β' (srcN own n)) (resO ext' fs) v x := fun {v x} hv h => by
            refine h.mono (fun b hb => ⟨hb, rfl⟩) fun n hn => ?_
            by_cases h0 : resO ext' fs n = none
            · exact .inl h0
            · obtain ⟨g1, _, g3⟩ := hsrc n h0
              have g4 := (g3 (hv n hn)).1
              rw [g4] at g1
              cases ho : O n with
              | none => rw [ho] at g1; exact absurd g1 h0
              | some o => exact .inr ⟨o, o, rfl, by rw [g1, ho], likeO_refl o, by simp only [g4], rfl⟩
          have hleaf : ∀ m k, rn own m = some k → (resO ext' fs k = O m ∨ resO ext' fs k = none) ∧ β' (srcN own k) = β' m := fun m k h => by
            unfold rn at h
            split at h
            · rename_i j hj
              injection h with h; subst h
              obtain ⟨h1, h2⟩ := findIdx_own hj
              obtain ⟨h3, h4⟩ := fs_get hown h1
              have e : F j - 2000000 = j := by simp only [F]; omega
              have e2 : 2000000 ≤ F j := by simp only [F]; omega
              refine ⟨.inl ?_, ?_⟩
              · unfold resO; rw [if_pos e2, e, ← h2, h4]; simp [h3]
              · simp only [srcN, if_pos e2, e]; rw [← h2]; simp [h1]
            · split at h
              · rename_i h1
                injection h with h; subst h
                have e : srcN own m = m := by simp [srcN]; omega
                rw [e]
                refine ⟨?_, rfl⟩
                by_cases h0 : resO ext' fs m = none
                · exact .inr h0
                · exact .inl (by have := (hsrc m h0).1; rw [e] at this; exact this)
              · cases h
          refine ⟨y, S', fun n => β' (srcN own n), rfl, hst.fr, hst.up, fun b hb => ?_, fun i hi => hXβ i hi, fun j hj => ?_, hlen, Rel.drop (O := resO ext' fs) ?_ (resG_or ext' fs), SR.drop (O := resO ext' fs) ?_ (resG_or ext' fs)⟩
          · rcases hst.new b hb with h | ⟨n, h1, h2⟩ | ⟨h1, _⟩
            · exact .inl h
            · exfalso
              have hn : 1000000 ≤ n ∧ n - 1000000 < ext.length := by
                unfold resO at h1
                by_cases h2 : 2000000 ≤ n
                · simp [h2] at h1
                · simp only [if_neg h2] at h1
                  by_cases h3 : 1000000 ≤ n
                  · simp only [if_pos h3] at h1
                    exact ⟨h3, by
                      rcases Nat.lt_or_ge (n - 1000000) ext.length with h | h
                      · exact h
                      · exact absurd (List.getElem?_eq_none h) h1⟩
                  · simp [h3] at h1
              have e : n = X (n - 1000000) := by simp only [X]; omega
              refine (hrel.sep b hb).2 n ?_ ?_
              · rw [e]; exact hXn _ hn.2
              · rw [← h2, e]; exact hst.ext _
            · exact .inr (.inl h1)
          · have hj' : j < own.length := by omega
            have e : F j - 2000000 = j := by simp only [F]; omega
            have e2 : 2000000 ≤ F j := by simp only [F]; omega
            obtain ⟨h3, h4⟩ := fs_get hown hj'
            have e3 : srcN own (F j) = own[j] := by simp only [srcN, if_pos e2, e]; simp [hj']
            simp only [e3]
            rcases Nat.lt_or_ge (β' own[j]) w.heap.size with h | h
            · right
              obtain ⟨m, h5, h6⟩ := hst.old own[j] (by rw [h4]; simp) h
              have hm : 1000000 ≤ m ∧ m - 1000000 < ext.length := by
                unfold resO at h5
                by_cases h2 : 2000000 ≤ m
                · simp [h2] at h5
                · simp only [if_neg h2] at h5
                  by_cases h3 : 1000000 ≤ m
                  · simp only [if_pos h3] at h5
                    exact ⟨h3, by
                      rcases Nat.lt_or_ge (m - 1000000) ext.length with h | h
                      · exact h
                      · exact absurd (List.getElem?_eq_none h) h5⟩
                  · simp [h3] at h5
              have e : m = X (m - 1000000) := by simp only [X]; omega
              exact ⟨m - 1000000, hm.2, by rw [← e]; exact h6⟩
            · exact .inl h
          · refine ⟨fun n hn => ?_, fun n m hn hm he => ?_, fun b hb => ⟨(hrel.sep b hb).1, fun n hn => ?_⟩, fun n o ho => ?_⟩
            · exact hrel.live _ ((hsrc n hn).1 ▸ hn)
            · exact hinj n m hn hm (hrel.inj _ _ ((hsrc n hn).1 ▸ hn) ((hsrc m hm).1 ▸ hm) he)
            · exact (hrel.sep b hb).2 _ ((hsrc n hn).1 ▸ hn)
            · have h1 := hsrc n (by rw [ho]; simp)
              have h2 := hrel.obj (srcN own n) o (by rw [← h1.1, ho])
              cases o with
              | arr sz xs => exact h2
              | map es => exact h2
              | box cs =>
                obtain ⟨c, ty, h3, h4, h5⟩ := h2
                refine ⟨c, ty, h3, h4, fun i hi => hbox (fun m hm => ?_) (h5 i hi)⟩
                rcases Nat.lt_or_ge n 2000000 with h | h
                · have hx := h1.2.2 h
                  unfold resO at ho
                  rw [if_neg (by omega), if_pos hx.2.1] at ho
                  simp only [List.all_eq_true] at hbx
                  have := hbx _ (List.mem_of_getElem? ho)
                  simp only [Ob.refs, List.all_eq_true, decide_eq_true_eq] at this
                  exact this m (refsL_mem hi hm)
                · unfold resO at ho
                  rw [if_pos h] at ho
                  simp only [List.all_eq_true] at hplain
                  have := hplain _ (List.mem_of_getElem? ho)
                  simp only [plainOb, List.isEmpty_iff] at this
                  have := refsL_mem hi hm
                  simp_all
          · rw [← hr0]
            refine hsy.tr (fun v x h => h) fun v x hv h => ?_
            have hl := @leaf_name w' S' β' (fun n => β' (srcN own n)) O (resO ext' fs)
            cases v with
            | ar m =>
              simp only [nmF]
              cases hk : rn own m with
              | none => exact .junk _
              | some k =>
                obtain ⟨h1 | h1, h2⟩ := hleaf m k hk
                · exact (hl h1 h2).1 h
                · exact .dead _ k _ rfl rfl h1
            | sub m lo hi =>
              simp only [nmF]
              cases hk : rn own m with
              | none => exact .junk _
              | some k =>
                obtain ⟨h1 | h1, h2⟩ := hleaf m k hk
                · exact (hl h1 h2).2.1 _ _ h
                · exact .dead _ k _ rfl rfl h1
            | bx m o =>
              simp only [nmF]
              cases hk : rn own m with
              | none => exact .junk _
              | some k =>
                obtain ⟨h1 | h1, h2⟩ := hleaf m k hk
                · exact (hl h1 h2).2.2.1 _ h
                · exact .dead _ k _ rfl rfl h1
            | el m i j =>
              simp only [nmF]
              cases hk : rn own m with
              | none => exact .junk _
              | some k =>
                obtain ⟨h1 | h1, h2⟩ := hleaf m k hk
                · exact (hl h1 h2).2.2.2.1 _ _ h
                · exact .dead _ k _ rfl rfl h1
            | mp m =>
              simp only [nmF]
              cases hk : rn own m with
              | none => exact .junk _
              | some k =>
                obtain ⟨h1 | h1, h2⟩ := hleaf m k hk
                · exact (hl h1 h2).2.2.2.2 h
                · exact .dead _ k _ rfl rfl h1
            | _ => simp [isRef] at hv
        cases out with
        | norm => exact ⟨hdef, y, hy, hR⟩
        | ret => exact ⟨hdef, y, hy, hR⟩
        | exit id => exact hout.elim
theorem pc_of_awS {f : FuncId} {fn : Func} {c : Code} {af : AFn} (hf : P.funcs[f]? = some fn) (hb : fn.body = some c) (hname : (fn.name == "runtime.NumGoroutine") = false) (hm : P.follows .mixedOrders = true) (hfn : fnOf P ann fn = some af)
    (hdst : codeDst fn.ntmps c = true) (hΓ : GS P Γ) {args : List SV} {ext ext' fs : List Ob} {r : SV} (hel : ext.length ≤ 1000000) {σ0 : Env}
    (hσ : ∀ (w : World) (S : Nat → Prop) (β : Nat → Nat) (vals : Array Value) (n : Nat), vals.size = args.length → (∀ i (hi : i < args.length), SR w S β (resO ext []) args[i] (vals.getD i undef)) → Slots w S β (resO ext []) σ0 (vals ++ Array.replicate n undef))
    (hnt : args.length ≤ fn.ntmps)
    (hrun : aw Γ ks os af.body (finA af.res ext r ext' fs) σ0 (resO ext [])) : PC P f args ext r ext' fs :=
  pc_of_awH hf hb hname hfn hel (σ0 := fun _ => σ0) hσ hnt fun hc _ _ _ _ _ hat hpost => aw_sound hΓ hm c hc hdst hrun hat hpost
theorem pc_of_aw {f : FuncId} {fn : Func} {c : Code} {af : AFn} (hf : P.funcs[f]? = some fn) (hb : fn.body = some c) (hname : (fn.name == "runtime.NumGoroutine") = false) (hm : P.follows .mixedOrders = true) (hfn : fnOf P ann fn = some af)
    (hdst : codeDst fn.ntmps c = true) (hΓ : GS P Γ) {args : List SV} {ext ext' fs : List Ob} {r : SV} (hargs : args.length ≤ fn.ntmps) (hel : ext.length ≤ 1000000)
    (hrun : aw Γ ks os af.body (finA af.res ext r ext' fs) (argE args) (resO ext [])) : PC P f args ext r ext' fs := by
  refine pc_of_awS hf hb hname hm hfn hdst hΓ hel (fun w S β vals n hsz hv i => ?_) hargs hrun
  rw [argsE_at]
  by_cases hi : i < args.length
  · have := hv i hi
    simp only [List.getElem?_eq_getElem hi, Option.getD_some]
    have e : (vals ++ Array.replicate n undef).getD i undef = vals.getD i undef := by
      simp [Array.getElem?_append, show i < vals.size by omega]
    simp only [e]; exact this
  · rw [List.getElem?_eq_none (by omega)]; exact .junk _
end
end Go.Proofs.YtpobnchalcokoaaDoor.Pam
