/- A part of the proof that stands in this folder: a small machine whose steps are shown to be the steps of the model, or walks of functions by it. No condition of its own. -/
import Derived.Test.YtpobnchalcokoaaDoorPamJ
set_option linter.unusedVariables false
set_option linter.unusedSimpArgs false
namespace Go.Proofs.YtpobnchalcokoaaDoor.Pam
open Go

/-- From a world to a later one: only blocks of live objects have been written. -/
structure Step (w w' : World) (S S' : Nat → Prop) (β β' : Nat → Nat) (O O' : Objs) : Prop where
  fr : Fr w w' fun b => ∃ n, O n ≠ none ∧ β n = b
  up : ∀ b, S b → S' b
  new : ∀ b, S' b → S b ∨ (∃ n, O n ≠ none ∧ β n = b) ∨ (w.heap.size ≤ b ∧ b < w'.heap.size)
  ext : ∀ i, β' (X i) = β (X i)
  old : ∀ n, O' n ≠ none → β' n < w.heap.size → ∃ m, O m ≠ none ∧ β' n = β m

section
variable {P : Program} {w w' w1 : World} {S S' S2 : Nat → Prop} {β β' : Nat → Nat} {O O' : Objs} {σ : Env} {a : Act} {o : Oper} {v : SV} {ann : Nat → Option Ann} {Γ : Gam} {tmps : Array Value}

theorem Step.refl (w : World) (S : Nat → Prop) (β : Nat → Nat) (O : Objs) : Step w w S S β β O O := ⟨Fr.refl _ _, fun _ h => h, fun _ h => .inl h, fun _ => rfl, fun n h _ => ⟨n, h, rfl⟩⟩
theorem Step.trans {w'' : World} {S'' : Nat → Prop} {β'' : Nat → Nat} {O'' : Objs} (h : Step w w' S S' β β' O O') (hr' : Rel w' S' β' O') (h' : Step w' w'' S' S'' β' β'' O' O'') : Step w w'' S S'' β β'' O O'' where
  fr := h.fr.trans h'.fr fun b hb ⟨n, hn, e⟩ => by
    obtain ⟨m, h1, h2⟩ := h.old n hn (e ▸ hb)
    exact ⟨m, h1, h2 ▸ e⟩
  up b hb := h'.up b (h.up b hb)
  new b hb := by
    rcases h'.new b hb with g | ⟨n, hn, e⟩ | ⟨g1, g2⟩
    · rcases h.new b g with g | g | ⟨g1, g2⟩
      · exact .inl g
      · exact .inr (.inl g)
      · exact .inr (.inr ⟨g1, Nat.lt_of_lt_of_le g2 h'.fr.size⟩)
    · by_cases hlt : b < w.heap.size
      · obtain ⟨m, h1, h2⟩ := h.old n hn (e ▸ hlt)
        exact .inr (.inl ⟨m, h1, h2 ▸ e⟩)
      · have := hr'.live n hn
        exact .inr (.inr ⟨by omega, Nat.lt_of_lt_of_le (e ▸ this) h'.fr.size⟩)
    · exact .inr (.inr ⟨Nat.le_trans h.fr.size g1, g2⟩)
  ext i := (h'.ext i).trans (h.ext i)
  old n hn hb := by
    obtain ⟨m, h1, h1'⟩ := h'.old n hn (Nat.lt_of_lt_of_le hb h.fr.size)
    obtain ⟨k, h2, h2'⟩ := h.old m h1 (h1' ▸ hb)
    exact ⟨k, h2, h1'.trans h2'⟩
theorem Grow.step (h : Grow w w' S S') : Step w w' S S' β β O O := ⟨h.fr.mono fun _ _ h => h.elim, h.up, fun b hb => (h.new b hb).imp id .inr, fun _ => rfl, fun n h _ => ⟨n, h, rfl⟩⟩

theorem freezeO_cases (n : Nat) (q : Option Ob) (O : Objs) (m : Nat) : (m = n ∧ freezeO n q O m = none) ∨ (m ≠ n ∧ ((O m = none ∧ freezeO n q O m = none) ∨ ∃ ob, O m = some ob ∧ freezeO n q O m = some (ob.tr (fz n q)))) := by
  by_cases h : m = n
  · exact .inl ⟨h, by simp [freezeO, h]⟩
  · refine .inr ⟨h, ?_⟩
    cases ho : O m with
    | none => exact .inl ⟨rfl, by simp [freezeO, h, ho]⟩
    | some ob => exact .inr ⟨ob, rfl, by simp [freezeO, h, ho]⟩
theorem likeO_tr (f : SV → SV) (ob : Ob) : likeO ob (ob.tr f) := by cases ob <;> simp [likeO, Ob.tr]
theorem likeO_refl (ob : Ob) : likeO ob ob := by cases ob <;> simp [likeO]

theorem fz_other {n m : Nat} {q : Option Ob} {v : SV} (hv : isRef v = true) (hm : v.refs = [m]) (h : m ≠ n) : fz n q v = v := by
  cases v <;> simp only [isRef] at hv <;> first | (cases hv; done) | skip
  all_goals (simp only [SV.refs, List.cons.injEq, and_true] at hm; subst hm; simp [fz, h])
theorem isRef_refs {v : SV} (hv : isRef v = true) : ∃ m, v.refs = [m] := by
  cases v <;> simp only [isRef] at hv <;> first | (cases hv; done) | exact ⟨_, rfl⟩

theorem fz_leaf {n : Nat} {q : Option Ob} (hr : Rel w S β O) (hq : q = none ∨ q = O n) (hS : ∀ b, S b → S2 b) (hn : q ≠ none → S2 (β n)) {v : SV} {x : Value} (hv : isRef v = true) (h : SR w S β O v x) : SR w S2 β (freezeO n q O) (fz n q v) x := by
  have hmono : ∀ (u : PV) y, PR w S u y → PR w S2 u y := fun u y h => h.mono fun b hb => ⟨hS b hb, rfl⟩
  obtain ⟨m, hm⟩ := isRef_refs hv
  by_cases hmn : m = n
  · subst hmn
    cases v <;> simp only [isRef] at hv <;> first | (cases hv; done) | skip
    case bx k off =>
      simp only [SV.refs, List.cons.injEq, and_true] at hm; subst hm
      simp only [fz, if_true]
      split
      · rename_i cs
        split
        · rename_i vs ha
          have hO : O k = some (.box cs) := by rcases hq with h | h; exact absurd h (by simp); exact h.symm
          obtain ⟨he, _⟩ := h.bx_inv (by rw [hO]; simp)
          subst he
          exact .p _ _ (cp_of_box hr hO ha (hn (by simp)) (fun u _ x hx => hmono u x hx) off)
        · exact .junk _
      · exact .junk _
    case el k i j => simp only [SV.refs, List.cons.injEq, and_true] at hm; subst hm; simp only [fz, if_true]; exact .junk _
    case ar k =>
      simp only [SV.refs, List.cons.injEq, and_true] at hm; subst hm
      simp only [fz, if_true]
      split
      · rename_i sz xs
        have hO : O k = some (.arr sz xs) := by rcases hq with h | h; exact absurd h (by simp); exact h.symm
        obtain ⟨_, _, cap, hm', he, h1, h2⟩ := h.ar_inv (by rw [hO]; simp)
        rw [hO] at hm'; cases hm'
        subst he
        obtain ⟨c, ty, hb', hsz, hlen, hc⟩ := hr.obj k _ hO
        exact .p _ _ (.sl sz xs (β k) 0 _ cap (fun i => c.getD i undef) rfl h1 (hn (by simp)) hsz (fun i hi => by rw [Nat.zero_add]; exact cell_of hb' _ (by omega)) fun i hi => hmono _ _ (hc i hi))
      · exact .junk _
    case sub k lo hi0 =>
      simp only [SV.refs, List.cons.injEq, and_true] at hm; subst hm
      simp only [fz, if_true]
      split
      · rename_i sz xs
        have hO : O k = some (.arr sz xs) := by rcases hq with h | h; exact absurd h (by simp); exact h.symm
        obtain ⟨_, _, off, cap, hm', he, h1, h2, h3, h4⟩ := h.sub_inv (by rw [hO]; simp)
        rw [hO] at hm'; cases hm'
        subst he
        obtain ⟨c, ty, hb', hsz, hlen, hc⟩ := hr.obj k _ hO
        exact .p _ _ (PR.cut (off := 0) (vals := fun i => c.getD i undef) (hn (by simp)) hsz (fun i hi => by rw [Nat.zero_add]; exact cell_of hb' _ (by omega)) (fun i hi => hmono _ _ (hc i hi)) h1 h2 (fun g => by rw [h4 g]; omega) h3)
      · exact .junk _
    case mp k =>
      simp only [SV.refs, List.cons.injEq, and_true] at hm; subst hm
      simp only [fz, if_true]
      split
      · rename_i es
        have hO : O k = some (.map es) := by rcases hq with h | h; exact absurd h (by simp); exact h.symm
        obtain ⟨he, _⟩ := h.mp_inv (by rw [hO]; simp)
        subst he
        obtain ⟨en, ck, hb', hsz, hk, hv'⟩ := hr.obj k _ hO
        exact .p _ _ (.mapv es (β k) ck en (hn (by simp)) hb' hsz (fun i hi => hmono _ _ (hk i hi)) (fun i hi => hmono _ _ (hv' i hi)))
      · exact .junk _
  · rw [fz_other hv hm hmn]
    refine h.mono (fun b hb => ⟨hS b hb, rfl⟩) fun k hk => ?_
    rw [hm, List.mem_singleton] at hk; subst hk
    rcases freezeO_cases n q O k with ⟨e, _⟩ | ⟨_, ⟨h1, h2⟩ | ⟨ob, h1, h2⟩⟩
    · exact absurd e hmn
    · exact .inl h2
    · exact .inr ⟨ob, _, h1, h2, likeO_tr _ ob, rfl, rfl⟩

theorem SR.freeze {n : Nat} {q : Option Ob} (hr : Rel w S β O) (hq : q = none ∨ q = O n) (hS : ∀ b, S b → S2 b) (hn : q ≠ none → S2 (β n)) {v : SV} {x : Value} (h : SR w S β O v x) : SR w S2 β (freezeO n q O) (v.tr (fz n q)) x :=
  h.tr (fun _ _ h => h.mono fun b hb => ⟨hS b hb, rfl⟩) fun _ _ hv hs => fz_leaf hr hq hS hn hv hs

theorem Rel.freeze {n : Nat} {q : Option Ob} (hr : Rel w S β O) (hq : q = none ∨ q = O n) (hS : ∀ b, S b → S2 b) (hn : q ≠ none → S2 (β n)) (hS2 : ∀ b, S2 b → S b ∨ (O n ≠ none ∧ b = β n)) : Rel w S2 β (freezeO n q O) := by
  have hne : ∀ m, freezeO n q O m ≠ none → m ≠ n ∧ O m ≠ none := fun m hm => by
    rcases freezeO_cases n q O m with ⟨_, e⟩ | ⟨h1, ⟨_, e⟩ | ⟨ob, h2, _⟩⟩
    · exact absurd e hm
    · exact absurd e hm
    · exact ⟨h1, by rw [h2]; simp⟩
  refine ⟨fun m hm => hr.live m (hne m hm).2, fun m k hm hk => hr.inj m k (hne m hm).2 (hne k hk).2, fun b hb => ?_, fun m ob hm => ?_⟩
  · rcases hS2 b hb with h | ⟨h1, h2⟩
    · exact ⟨(hr.sep b h).1, fun m hm => (hr.sep b h).2 m (hne m hm).2⟩
    · exact ⟨h2 ▸ hr.live n h1, fun m hm e => (hne m hm).1 (hr.inj m n (hne m hm).2 h1 (by rw [e, h2]))⟩
  · rcases freezeO_cases n q O m with ⟨_, e⟩ | ⟨_, ⟨_, e⟩ | ⟨ob', h2, e⟩⟩
    · rw [e] at hm; cases hm
    · rw [e] at hm; cases hm
    · rw [e] at hm; injection hm with hm; subst hm
      have h := hr.obj m ob' h2
      cases ob' with
      | box cs =>
        obtain ⟨c, ty, h1, h3, h4⟩ := h
        exact ⟨c, ty, h1, by rw [trL_length]; exact h3, fun i hi => by rw [trL_get]; exact (h4 i _).freeze hr hq hS hn⟩
      | arr sz xs =>
        obtain ⟨c, ty, h1, h3, h4, h5⟩ := h
        exact ⟨c, ty, h1, h3, h4, fun i hi => (h5 i hi).mono fun b hb => ⟨hS b hb, rfl⟩⟩
      | map es =>
        obtain ⟨en, ck, h1, h3, h4, h5⟩ := h
        exact ⟨en, ck, h1, h3, fun i hi => (h4 i hi).mono fun b hb => ⟨hS b hb, rfl⟩, fun i hi => (h5 i hi).mono fun b hb => ⟨hS b hb, rfl⟩⟩

mutual
theorem refs_fz (n : Nat) (q : Option Ob) : ∀ v : SV, n ∉ (v.tr (fz n q)).refs
  | .p v => by simp [SV.tr, SV.refs]
  | .ag cs => by simp only [SV.tr, SV.refs]; exact refsL_fz n q cs
  | .tp cs => by simp only [SV.tr, SV.refs]; exact refsL_fz n q cs
  | .cl f a c => by simp only [SV.tr, SV.refs, List.mem_append, not_or]; exact ⟨refsL_fz n q a, refsL_fz n q c⟩
  | .un => by simp [SV.tr, SV.refs]
  | .junk => by simp [SV.tr, SV.refs]
  | .bx m off => by
    simp only [SV.tr, fz]; split
    · split
      · split <;> simp [SV.refs]
      · simp [SV.refs]
    · rename_i h; simp only [SV.refs, List.mem_singleton]; exact fun e => h e.symm
  | .el m i j => by
    simp only [SV.tr, fz]; split
    · simp [SV.refs]
    · rename_i h; simp only [SV.refs, List.mem_singleton]; exact fun e => h e.symm
  | .ar m => by
    simp only [SV.tr, fz]; split
    · split <;> simp [SV.refs]
    · rename_i h; simp only [SV.refs, List.mem_singleton]; exact fun e => h e.symm
  | .sub m lo hi => by
    simp only [SV.tr, fz]; split
    · split <;> simp [SV.refs]
    · rename_i h; simp only [SV.refs, List.mem_singleton]; exact fun e => h e.symm
  | .mp m => by
    simp only [SV.tr, fz]; split
    · split <;> simp [SV.refs]
    · rename_i h; simp only [SV.refs, List.mem_singleton]; exact fun e => h e.symm
theorem refsL_fz (n : Nat) (q : Option Ob) : ∀ cs : List SV, n ∉ SV.refsL (SV.trL (fz n q) cs)
  | [] => by simp [SV.trL, SV.refsL]
  | c :: cs => by simp only [SV.trL, SV.refsL, List.mem_append, not_or]; exact ⟨refs_fz n q c, refsL_fz n q cs⟩
end

/-- What stood for something before an object came to the block 'b0' stands for it behind. -/
theorem SR.put {d b0 : Nat} {ob : Option Ob} (hw : ∀ b, b < w.heap.size → b ≠ b0 → w1.heap[b]? = w.heap[b]?) (hlv : ∀ n, O n ≠ none → β n ≠ b0) (hSb : ¬ S b0) (hr : Rel w S β O) (hS : ∀ b, S b → S2 b) {v : SV} {x : Value} (h : SR w S β O v x) (hd : d ∉ v.refs) :
    SR w1 S2 (fun n => if n = d then b0 else β n) (setO d ob O) v x := by
  refine h.mono (fun b hb => ⟨hS b hb, hw b (hr.sep b hb).1 fun e => hSb (e ▸ hb)⟩) fun m hm => ?_
  have hmd : m ≠ d := fun e => hd (e ▸ hm)
  simp only [setO, if_neg hmd]
  cases ho : O m with
  | none => exact .inl rfl
  | some o =>
    have hne : O m ≠ none := by rw [ho]; simp
    exact .inr ⟨o, o, rfl, rfl, likeO_refl o, trivial, by simp only [bsz]; rw [hw _ (hr.live m hne) (hlv m hne)]⟩

theorem Rel.put {d b0 : Nat} {ob : Ob} (hw : ∀ b, b < w.heap.size → b ≠ b0 → w1.heap[b]? = w.heap[b]?) (hsz : w.heap.size ≤ w1.heap.size) (hlv : ∀ n, O n ≠ none → β n ≠ b0) (hSb : ¬ S b0) (hr : Rel w S β O) (hS : ∀ b, S b → S2 b)
    (hS2 : ∀ b, S2 b → S b ∨ (w.heap.size ≤ b ∧ b < w1.heap.size ∧ b ≠ b0)) (hb1 : b0 < w1.heap.size)
    (hno : ∀ m cs, O m = some (.box cs) → d ∉ SV.refsL cs) (hd : O d = none) (hobj : OR w1 S2 (fun n => if n = d then b0 else β n) (setO d (some ob) O) d ob) : Rel w1 S2 (fun n => if n = d then b0 else β n) (setO d (some ob) O) := by
  have hne : ∀ m, m ≠ d → setO d (some ob) O m = O m := fun m h => by simp [setO, h]
  have hl : ∀ m, m ≠ d → setO d (some ob) O m ≠ none → O m ≠ none := fun m h hm => by rw [hne m h] at hm; exact hm
  refine ⟨fun m hm => ?_, fun m k hm hk he => ?_, fun b hb2 => ⟨?_, fun m hm => ?_⟩, fun m o ho => ?_⟩
  · by_cases h : m = d
    · simp only [h, if_true]; exact hb1
    · simp only [h, if_false]; exact Nat.lt_of_lt_of_le (hr.live m (hl m h hm)) hsz
  · by_cases h : m = d <;> by_cases h' : k = d
    · rw [h, h']
    · simp only [h, h', if_true, if_false] at he; exact absurd he.symm (hlv k (hl k h' hk))
    · simp only [h, h', if_true, if_false] at he; exact absurd he (hlv m (hl m h hm))
    · simp only [h, h', if_false] at he
      exact hr.inj m k (hl m h hm) (hl k h' hk) he
  · rcases hS2 b hb2 with h | ⟨_, h, _⟩
    · exact Nat.lt_of_lt_of_le (hr.sep b h).1 hsz
    · exact h
  · by_cases h : m = d
    · simp only [h, if_true]
      rcases hS2 b hb2 with g | ⟨_, _, g⟩
      · exact fun e => hSb (e ▸ g)
      · exact fun e => g e.symm
    · simp only [h, if_false]
      rcases hS2 b hb2 with g | ⟨g, _, _⟩
      · exact (hr.sep b g).2 m (hl m h hm)
      · have := hr.live m (hl m h hm); omega
  · by_cases h : m = d
    · subst h
      have : o = ob := by simp [setO] at ho; exact ho.symm
      subst this; exact hobj
    · rw [hne m h] at ho
      have hne' : O m ≠ none := by rw [ho]; simp
      have hb' : w1.heap[β m]? = w.heap[β m]? := hw _ (hr.live m hne') (hlv m hne')
      have hpm : ∀ (u : PV) y, PR w S u y → PR w1 S2 u y := fun u y g => g.mono fun b hb => ⟨hS b hb, hw b (hr.sep b hb).1 fun e => hSb (e ▸ hb)⟩
      have ho' := hr.obj m o ho
      cases o with
      | box cs =>
        obtain ⟨c, ty, h1, h2, h3⟩ := ho'
        exact ⟨c, ty, by simp only [if_neg h]; rw [hb']; exact h1, h2, fun i hi => (h3 i hi).put hw hlv hSb hr hS fun hm => hno m cs ho (refsL_mem hi hm)⟩
      | arr sz xs =>
        obtain ⟨c, ty, h1, h2, h3, h4⟩ := ho'
        exact ⟨c, ty, by simp only [if_neg h]; rw [hb']; exact h1, h2, h3, fun i hi => hpm _ _ (h4 i hi)⟩
      | map es =>
        obtain ⟨en, ck, h1, h2, h3, h4⟩ := ho'
        exact ⟨en, ck, by simp only [if_neg h]; rw [hb']; exact h1, h2, fun i hi => hpm _ _ (h3 i hi), fun i hi => hpm _ _ (h4 i hi)⟩

/-- No box leads to what has been given up. -/
theorem freezeO_no (n : Nat) (q : Option Ob) (O : Objs) (m : Nat) (cs : List SV) (h : freezeO n q O m = some (.box cs)) : n ∉ SV.refsL cs := by
  rcases freezeO_cases n q O m with ⟨_, e⟩ | ⟨_, ⟨_, e⟩ | ⟨ob, _, e⟩⟩
  · rw [e] at h; cases h
  · rw [e] at h; cases h
  · rw [e] at h; injection h with h
    cases ob with
    | box cs' => simp only [Ob.tr, Ob.box.injEq] at h; subst h; exact refsL_fz n q cs'
    | arr _ _ => simp [Ob.tr] at h
    | map _ => simp [Ob.tr] at h

/-- One object's content is written anew. -/
theorem SR.write {m : Nat} {ob0 ob : Ob} (hm : O m = some ob0) (hlike : likeO ob0 ob) (hw : ∀ b, b ≠ β m → w1.heap[b]? = w.heap[b]?) (hbs : bsz w1 (β m) = bsz w (β m)) (hr : Rel w S β O) {v : SV} {x : Value} (h : SR w S β O v x) : SR w1 S β (setO m (some ob) O) v x := by
  have hml : O m ≠ none := by rw [hm]; simp
  refine h.mono (fun b hb => ⟨hb, hw b fun e => (hr.sep b hb).2 m hml e.symm⟩) fun k _ => ?_
  by_cases hk : k = m
  · subst hk; exact .inr ⟨ob0, ob, hm, by simp [setO], hlike, by trivial, hbs⟩
  · simp only [setO, if_neg hk]
    cases ho : O k with
    | none => exact .inl rfl
    | some o => exact .inr ⟨o, o, rfl, rfl, likeO_refl o, by trivial, by simp only [bsz]; rw [hw _ fun e => hk (hr.inj k m (by rw [ho]; simp) hml e)]⟩

theorem Rel.write {m : Nat} {ob0 ob : Ob} (hm : O m = some ob0) (hlike : likeO ob0 ob) (hw : ∀ b, b ≠ β m → w1.heap[b]? = w.heap[b]?) (hsz : w1.heap.size = w.heap.size) (hbs : bsz w1 (β m) = bsz w (β m)) (hr : Rel w S β O)
    (hobj : OR w1 S β (setO m (some ob) O) m ob) : Rel w1 S β (setO m (some ob) O) := by
  have hml : O m ≠ none := by rw [hm]; simp
  have hl : ∀ k, setO m (some ob) O k ≠ none → O k ≠ none := fun k hk => by
    by_cases h : k = m
    · rw [h]; exact hml
    · simpa [setO, h] using hk
  refine ⟨fun k hk => by rw [hsz]; exact hr.live k (hl k hk), fun k j hk hj => hr.inj k j (hl k hk) (hl j hj), fun b hb => ⟨by rw [hsz]; exact (hr.sep b hb).1, fun k hk => (hr.sep b hb).2 k (hl k hk)⟩, fun k o ho => ?_⟩
  by_cases h : k = m
  · subst h
    have : o = ob := by simp [setO] at ho; exact ho.symm
    subst this; exact hobj
  · have ho2 : O k = some o := by simpa [setO, h] using ho
    have hb' : w1.heap[β k]? = w.heap[β k]? := hw _ fun e => h (hr.inj k m (by rw [ho2]; simp) hml e)
    have hpm : ∀ (u : PV) y, PR w S u y → PR w1 S u y := fun u y g => g.mono fun b hb => ⟨hb, hw b fun e => (hr.sep b hb).2 m hml e.symm⟩
    have ho' := hr.obj k o ho2
    cases o with
    | box cs => obtain ⟨c, ty, h1, h2, h3⟩ := ho'; exact ⟨c, ty, by rw [hb']; exact h1, h2, fun i hi => (h3 i hi).write hm hlike hw hbs hr⟩
    | arr sz xs => obtain ⟨c, ty, h1, h2, h3, h4⟩ := ho'; exact ⟨c, ty, by rw [hb']; exact h1, h2, h3, fun i hi => hpm _ _ (h4 i hi)⟩
    | map es => obtain ⟨en, ck, h1, h2, h3, h4⟩ := ho'; exact ⟨en, ck, by rw [hb']; exact h1, h2, fun i hi => hpm _ _ (h3 i hi), fun i hi => hpm _ _ (h4 i hi)⟩

/-- WHAT A NEW OBJECT IS MADE OF. -/
def Made (w w1 : World) (S : Nat → Prop) (β : Nat → Nat) (O : Objs) (b0 : Nat) : Ob → Prop
  | .box cs => ∃ c ty, w1.heap[b0]? = some (.cells c ty (0, 0)) ∧ CR w S β O cs c
  | .arr sz xs => ∃ c ty, w1.heap[b0]? = some (.cells c ty (0, 0)) ∧ (∀ x ∈ xs, x.cells.length = sz) ∧ (flat xs).length ≤ c.size ∧ ∀ i (hi : i < (flat xs).length), PR w S (flat xs)[i] (c.getD i undef)
  | .map es => es = [] ∧ ∃ ck, w1.heap[b0]? = some (.map #[] ck)

theorem newA_rel (hr : Rel w S β O) (hs : Slots w S β O σ tmps) {d b0 : Nat} (hd : d < 1000000) {ob : Ob} (hf : Fr w w1 fun _ => False) (hb : w.heap.size ≤ b0) (hb1 : b0 < w1.heap.size) (hmade : Made w w1 S β O b0 ob) :
    ∃ S' β', β' d = b0 ∧ Step w w1 S S' β β' O (newA d ob .un σ O).2.2 ∧ Rel w1 S' β' (newA d ob .un σ O).2.2 ∧ Slots w1 S' β' (newA d ob .un σ O).2.2 (newA d ob .un σ O).2.1 tmps := by
  have hS : ∀ b, S b → S b ∨ (O d ≠ none ∧ b = β d) := fun _ h => .inl h
  have hr1 := hr.freeze (S2 := fun b => S b ∨ (O d ≠ none ∧ b = β d)) (n := d) (q := O d) (.inr rfl) hS (fun h => .inr ⟨h, rfl⟩) (fun _ h => h)
  have hsr1 : ∀ {v : SV} {x : Value}, SR w S β O v x → SR w (fun b => S b ∨ (O d ≠ none ∧ b = β d)) β (freezeO d (O d) O) (v.tr (fz d (O d))) x := fun h => h.freeze hr (.inr rfl) hS (fun h => .inr ⟨h, rfl⟩)
  have hw : ∀ b, b < w.heap.size → b ≠ b0 → w1.heap[b]? = w.heap[b]? := fun b h _ => hf.block b h id
  have hlv : ∀ n, freezeO d (O d) O n ≠ none → β n ≠ b0 := fun n hn => by have := hr1.live n hn; omega
  have hSb : ¬ (S b0 ∨ (O d ≠ none ∧ b0 = β d)) := fun h => by have := (hr1.sep b0 h).1; omega
  have hput : ∀ {v : SV} {x : Value}, SR w S β O v x → SR w1 (fun b => S b ∨ (O d ≠ none ∧ b = β d)) (fun n => if n = d then b0 else β n) (setO d (some (ob.tr (fz d (O d)))) (freezeO d (O d) O)) (v.tr (fz d (O d))) x :=
    fun h => (hsr1 h).put hw hlv hSb hr1 (fun _ h => h) (refs_fz d (O d) _)
  have hpm : ∀ (u : PV) y, PR w S u y → PR w1 (fun b => S b ∨ (O d ≠ none ∧ b = β d)) u y := fun u y g => g.mono fun b hb => ⟨.inl hb, hf.block b (hr.sep b hb).1 id⟩
  refine ⟨fun b => S b ∨ (O d ≠ none ∧ b = β d), fun n => if n = d then b0 else β n, by simp, ?_, ?_, fun i => ?_⟩
  · refine ⟨hf.mono fun _ _ h => h.elim, hS, fun b hb => ?_, fun i => ?_, fun n hn hlt => ?_⟩
    · rcases hb with h | ⟨h1, h2⟩
      · exact .inl h
      · exact .inr (.inl ⟨d, h1, h2.symm⟩)
    · have : X i ≠ d := by simp only [X]; omega
      simp [this]
    · by_cases h : n = d
      · simp only [h, if_true] at hlt; omega
      · simp only [h, if_false]
        refine ⟨n, ?_, rfl⟩
        simp only [newA, setO, if_neg h] at hn
        rcases freezeO_cases d (O d) O n with ⟨e, _⟩ | ⟨_, ⟨_, e⟩ | ⟨ob', h2, _⟩⟩
        · exact absurd e h
        · exact absurd e hn
        · rw [h2]; simp
  · refine Rel.put hw hf.size hlv hSb hr1 (fun _ h => h) (fun b h => .inl h) hb1 (fun m cs h => freezeO_no d (O d) O m cs h) (by simp [freezeO]) ?_
    cases ob with
    | box cs =>
      obtain ⟨c, ty, h1, h2, h3⟩ := hmade
      exact ⟨c, ty, by simpa using h1, by rw [trL_length]; exact h2, fun i hi => by rw [trL_get]; exact hput (h3 i _)⟩
    | arr sz xs =>
      obtain ⟨c, ty, h1, h2, h3, h4⟩ := hmade
      exact ⟨c, ty, by simpa using h1, h2, h3, fun i hi => hpm _ _ (h4 i hi)⟩
    | map es =>
      obtain ⟨rfl, ck, h1⟩ := hmade
      exact ⟨#[], ck, by simpa using h1, rfl, fun i hi => by simp at hi, fun i hi => by simp at hi⟩
  · exact hput (hs i)
end
end Go.Proofs.YtpobnchalcokoaaDoor.Pam
