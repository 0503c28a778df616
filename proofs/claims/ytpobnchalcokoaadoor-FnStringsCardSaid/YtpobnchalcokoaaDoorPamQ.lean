/- A part of the proof that stands in this folder: a small machine whose steps are shown to be the steps of the model, or walks of functions by it. No condition of its own. -/
import Derived.Test.YtpobnchalcokoaaDoorPamP2
set_option linter.unusedVariables false
set_option linter.unusedSimpArgs false
namespace Go.Proofs.YtpobnchalcokoaaDoor.Pam
open Go

theorem edge_iff {o : Oper} {j : Nat} : edge o j = true ↔ ∃ e ∈ o.after, Region.binds .any e = true ∧ e.on = j := by
  simp only [edge, List.any_eq_true, Bool.and_eq_true, beq_iff_eq, Array.mem_toList_iff]

theorem mem_edgesOf {o : Oper} {k : Nat} : k ∈ edgesOf o ↔ edge o k = true := by
  rw [edge_iff]
  simp only [edgesOf, List.mem_filterMap, Array.mem_toList_iff]
  constructor
  · rintro ⟨e, he, h⟩
    split at h
    · rename_i hb; injection h with h; exact ⟨e, he, hb, h⟩
    · cases h
  · rintro ⟨e, he, hb, h⟩
    exact ⟨e, he, by rw [if_pos hb, h]⟩

theorem predsAcc_len : ∀ (r : List Oper) (acc : List (List Nat)), (predsAcc r acc).length = acc.length + r.length
  | [], acc => rfl
  | o :: r, acc => by simp only [predsAcc]; rw [predsAcc_len r]; simp; omega
theorem preds_len (l : List Oper) : (preds l).length = l.length := by unfold preds; rw [predsAcc_len]; simp

/-- What is closed under the near ones is closed under the far ones. -/
theorem preds_mem {l : List Oper} {L : Nat → Prop} (hcl : ∀ j, j < l.length → L j → ∀ k ∈ edgesOf (l.getD j default), L k) {j : Nat} (hj : j < l.length) (he : ∀ k ∈ edgesOf (l.getD j default), L k) : ∀ i ∈ (preds l).getD j [], L i := by
  have key : ∀ (r : List Oper) (acc : List (List Nat)), l.drop acc.length = r → (∀ j, j < acc.length → (∀ k ∈ edgesOf (l.getD j default), L k) → ∀ i ∈ acc.getD j [], L i) →
      ∀ j, j < acc.length + r.length → (∀ k ∈ edgesOf (l.getD j default), L k) → ∀ i ∈ (predsAcc r acc).getD j [], L i := by
    intro r
    induction r with
    | nil => intro acc _ h j hj; exact h j (by simpa using hj)
    | cons o r ih =>
      intro acc hd h j hj he
      simp only [predsAcc]
      have hlt : acc.length < l.length := by
        rcases Nat.lt_or_ge acc.length l.length with g | g
        · exact g
        · rw [List.drop_eq_nil_of_le g] at hd; cases hd
      have ho : l.getD acc.length default = o := by
        have := List.drop_eq_getElem_cons hlt
        rw [hd] at this
        injection this with h1 _
        simp [hlt, h1]
      refine ih _ ?_ ?_ j (by simp at hj ⊢; omega) he
      · rw [List.length_append, List.length_singleton, ← List.drop_drop, hd]; rfl
      · intro q hq heq i hi
        by_cases hqa : q < acc.length
        · have e : (acc ++ [((edgesOf o).flatMap fun k => k :: acc.getD k []).eraseDups]).getD q [] = acc.getD q [] := by
            simp [List.getElem?_append, hqa]
          rw [e] at hi
          exact h q hqa heq i hi
        · have hqe : q = acc.length := by simp at hq; omega
          subst hqe
          have e : (acc ++ [((edgesOf o).flatMap fun k => k :: acc.getD k []).eraseDups]).getD acc.length [] = ((edgesOf o).flatMap fun k => k :: acc.getD k []).eraseDups := by simp
          rw [e, List.mem_eraseDups, List.mem_flatMap] at hi
          obtain ⟨k, hk, hi⟩ := hi
          rw [ho] at heq
          have hLk := heq k hk
          rcases List.mem_cons.1 hi with rfl | hi
          · exact hLk
          · have hka : k < acc.length := by
              rcases Nat.lt_or_ge k acc.length with g | g
              · exact g
              · simp [List.getElem?_eq_none g] at hi
            exact h k hka (hcl k (by omega) hLk) i hi
  exact key l [] (by simp) (fun j hj => by simp at hj) j (by simpa using hj) he

theorem rosOf_get {P : Program} {ann : Nat → Option Ann} {ops : Array Oper} : ∀ {l : List Oper} {ros : List RO}, rosOf P ann ops l = some ros → ros.length = l.length ∧ ∀ j (h : j < l.length) (h' : j < ros.length), roOf P ann ops l[j] = some ros[j]
  | [], ros, h => by simp [rosOf] at h; subst h; exact ⟨rfl, fun j h => by simp at h⟩
  | o :: r, ros, h => by
    obtain ⟨ro, ros', h1, h2, rfl⟩ := rosOf_cons h
    obtain ⟨h3, h4⟩ := rosOf_get h2
    refine ⟨by simp [h3], fun j hj hj' => ?_⟩
    cases j with
    | zero => exact h1
    | succ j => exact h4 j (by simpa using hj) (by simpa using hj')

theorem opOf_own {P : Program} {ann : Nat → Option Ann} {o : Oper} {f : Od} {l : List Od} {own : Nat} {fzs : Bool} (hop : opOf P ann o = some (.w (.callL f l [] own fzs))) : own ≤ 15 := by
  unfold opOf at hop
  (repeat' split at hop) <;> first | (cases hop; done) | skip
  all_goals first
    | (rename_i hc; injection hop with hop; injection hop with hop; injection hop with _ _ e1 e _; rw [← e]; exact hc.2.2.resolve_right fun h => h.2.2 e1)
    | (cases h : odOf (by assumption) <;> simp [h] at hop; done)
    | (cases h : tyZero P (by assumption) <;> simp [h] at hop; done)

section
variable {P : Program} {w w' w0 : World} {S0 : Nat → Prop} {β0 : Nat → Nat} {O0 : Objs} {N : Nat} {O O' : Objs} {σ σ' : Env} {a : Act} {ann : Nat → Option Ann} {Γ : Gam} {Q : Exit → Act → World → Prop} {ops : Array Oper} {listed : Array Bool}

theorem count_zero (h : listed.count false = 0) : ∀ i, listed.getD i true = true := by
  intro i
  rw [Array.count_eq_zero] at h
  rw [Array.getD_eq_getD_getElem?]
  cases hi : listed[i]? with
  | none => rfl
  | some b =>
    cases b with
    | true => rfl
    | false => exact absurd (Array.mem_of_getElem? hi) h

theorem count_set {j : Nat} (h : listed.getD j true = false) : (listed.setIfInBounds j true).count false + 1 = listed.count false := by
  rw [Array.getD_eq_getD_getElem?] at h
  cases hi : listed[j]? with
  | none => simp [hi] at h
  | some b =>
    simp [hi] at h; subst h
    obtain ⟨hj, he⟩ := Array.getElem?_eq_some_iff.1 hi
    have hpos : 0 < listed.count false := Array.count_pos_iff.2 (Array.mem_of_getElem? hi)
    have e : listed.setIfInBounds j true = listed.set j true hj := by simp [Array.setIfInBounds, hj]
    rw [e, Array.count_set]
    simp [he]
    omega

theorem getD_tf {i : Nat} (h : i < listed.size) : listed.getD i true = listed.getD i false := by
  simp [h]

theorem ready_nil (hsz : listed.size = ops.size) (hback : backOk ops.toList = true) (hr : Region.ready .any ops listed = []) : ∀ j, j < ops.size → listed.getD j false = true := by
  intro j
  induction j using Nat.strongRecOn with
  | _ j ih =>
    intro hj
    cases hl : listed.getD j false with
    | true => rfl
    | false =>
      exfalso
      have : j ∈ Region.ready .any ops listed := by
        refine mem_ready.2 ⟨by rw [getD_tf (by omega)]; exact hl, ops[j], by simp [hj], fun e he hb => ?_⟩
        simp only [backOk, List.all_eq_true, List.mem_range, Array.length_toList, Bool.or_eq_true, decide_eq_true_eq, Bool.not_eq_true'] at hback
        have := hback j hj e (by simpa [hj] using he)
        rcases this with h | h
        · exact ih e.on h (by omega)
        · rw [hb] at h; cases h
      rw [hr] at this; cases this

theorem any_tail (hΓ : GS P Γ) {Ka : Env → Objs → Prop} (hQ : ∀ σ O a w, Ka σ O → At w0 S0 β0 O0 N σ O a w → Q .normal a w) {ros : List RO} (hros : rosOf P ann ops ops.toList = some ros) (hN : ∀ o ∈ ops.toList, ∀ d, o.dst = some d → d < N)
    {k : Nat} (hback : backOk ops.toList = true) (htail : tailOk (preds ops.toList) k = true) :
    ∀ (fuel m : Nat) (listed : Array Bool) (σ : Env) (O : Objs) (a : Act) (w : World), listed.count false ≤ fuel → listed.size = ops.size → k ≤ m → m ≤ ops.size → (∀ i, i < ops.size → listed.getD i true = decide (i < m)) →
      runOps Γ (ros.drop m) σ O Ka → At w0 S0 β0 O0 N σ O a w → wpAny P .any ops Q fuel listed a w := by
  obtain ⟨hlen, hget⟩ := rosOf_get hros
  simp only [Array.length_toList] at hlen hget
  intro fuel
  induction fuel with
  | zero =>
    intro m listed σ O a w hc hsz hk hm hl hrun hat
    have hm' : m = ops.size := by
      rcases Nat.lt_or_ge m ops.size with h | h
      · have h1 := hl m h
        rw [count_zero (by omega)] at h1
        simp at h1
      · omega
    refine ⟨?_, ?_⟩
    · rw [List.eq_nil_iff_forall_not_mem]
      intro j hj
      have := (mem_ready.1 hj).1
      rw [count_zero (by omega)] at this; cases this
    · rw [List.drop_eq_nil_of_le (by omega)] at hrun
      exact hQ _ _ _ _ hrun hat
  | succ fuel ih =>
    intro m listed σ O a w hc hsz hk hm hl hrun hat
    refine ⟨fun hr => ?_, fun i hi => ?_⟩
    · have hm' : m = ops.size := by
        rcases Nat.lt_or_ge m ops.size with h | h
        · have h1 := hl m h
          rw [getD_tf (by omega), ready_nil hsz hback hr m h] at h1
          simp at h1
        · omega
      rw [List.drop_eq_nil_of_le (by omega)] at hrun
      exact hQ _ _ _ _ hrun hat
    · obtain ⟨hun, o, ho, hed⟩ := mem_ready.1 hi
      have hin : i < ops.size := (Array.getElem?_eq_some_iff.1 ho).1
      have hoe : ops.toList.getD i default = o := by simp [ho]
      have him : i = m := by
        have h1 := hl i hin
        rw [hun] at h1
        have h1 : ¬ i < m := by simpa using h1.symm
        rcases Nat.lt_or_ge m i with h | h
        · exfalso
          simp only [tailOk, List.all_eq_true, List.mem_range, preds_len, Array.length_toList, Bool.or_eq_true, decide_eq_true_eq] at htail
          rcases htail i hin with h2 | h2
          · omega
          · have h3 : m ∈ (preds ops.toList).getD i [] := by simpa using h2 m h
            have h4 := preds_mem (L := fun q => listed.getD q false = true) (fun j hj hLj q hq => by
              have hj' : j < ops.size := by simpa using hj
              obtain ⟨e, he, hb, hon⟩ := edge_iff.1 (mem_edgesOf.1 hq)
              simp only [backOk, List.all_eq_true, List.mem_range, Array.length_toList, Bool.or_eq_true, decide_eq_true_eq, Bool.not_eq_true'] at hback
              have hlt : q < j := by
                rcases hback j hj' e (by simpa using he) with g | g
                · omega
                · rw [hb] at g; cases g
              have hjm : j < m := by
                have := hl j hj'
                rw [getD_tf (by omega), hLj] at this
                simpa using this.symm
              have := hl q (by omega)
              rw [getD_tf (by omega)] at this
              rw [this]; simp; omega) (j := i) (by simpa using hin) (fun q hq => by
              rw [hoe] at hq
              obtain ⟨e, he, hb, hon⟩ := edge_iff.1 (mem_edgesOf.1 hq)
              rw [← hon]; exact hed e he hb) m h3
            have h5 := hl m (by omega)
            rw [getD_tf (by omega), h4] at h5
            simp at h5
        · omega
      subst him
      have hir : i < ros.length := by omega
      rw [List.drop_eq_getElem_cons hir] at hrun
      have hro : roOf P ann ops o = some ros[i] := by
        have := hget i hin hir
        rw [← this]
        have : ops.toList[i]'(by simpa using hin) = o := by
          have := Array.getElem?_eq_some_iff.1 ho
          simpa using this.2
        rw [this]
      have hNo : ∀ d, o.dst = some d → d < N := hN o (by rw [← Array.mem_def]; exact Array.mem_of_getElem? ho)
      obtain ⟨hg, hop, hdst, hdb⟩ := roOf_inv hro
      have hsz' : (listed.setIfInBounds i true).size = ops.size := by simpa using hsz
      have hcs := count_set hun
      have hl' : ∀ j, j < ops.size → (listed.setIfInBounds i true).getD j true = decide (j < i + 1) := fun j hj => by
        by_cases h : i = j
        · subst h; simp [hsz, hj]
        · rw [getD_set_ne true h, hl j hj]
          have : (j < i) ↔ (j < i + 1) := by omega
          simp [this]
      unfold wpOp
      simp only [ho]
      simp only [runOps] at hrun
      obtain ⟨S, β, g1, g2, g3, g4, g5⟩ := id hat
      split at hrun
      · rename_i hw
        rw [want_rel g3 hg hw]
        simp only [if_true]
        obtain ⟨s, hst, hk'⟩ := hrun
        exact .inl (simO hΓ hat hro hNo hst fun a' w' hat' => ih (i + 1) _ _ _ _ _ (by omega) hsz' (by omega) (by omega) hl' hk' hat')
      · rename_i hw
        rw [want_rel g3 hg hw]
        simp only [Bool.false_eq_true, if_false]
        rw [hdst] at hrun
        exact ih (i + 1) _ _ _ _ _ (by omega) hsz' (by omega) (by omega) hl' hrun (hat.put_un hNo)
      · exact hrun.elim

theorem objL_add {ns : Nat → List (Nat × Ob)} {L : Nat → Bool} {O : Objs} {n j : Nat} (h : n ∉ (ns j).map (·.1)) : ∀ m, objL ns (fun i => if i = j then true else L i) O m n = objL ns L O m n
  | 0 => rfl
  | m + 1 => by
    have ih := objL_add (ns := ns) (L := L) (O := O) h m
    simp only [objL]
    by_cases e : m = j
    · subst e
      simp only [if_true]
      rw [setL_miss h, ih]
      split
      · rw [setL_miss h]
      · rfl
    · simp only [if_neg e]
      split
      · by_cases hm : n ∈ (ns m).map (·.1)
        · exact setL_in hm _ _
        · rw [setL_miss hm, setL_miss hm, ih]
      · exact ih
theorem objL_put {ns : Nat → List (Nat × Ob)} {L : Nat → Bool} {O : Objs} {n j : Nat} (hn : n ∈ (ns j).map (·.1)) (O' : Objs) : ∀ m, j < m → (∀ i, j < i → i < m → L i = true → n ∉ (ns i).map (·.1)) → objL ns (fun i => if i = j then true else L i) O m n = setL (ns j) O' n
  | 0, h, _ => by omega
  | m + 1, h, hl => by
    simp only [objL]
    by_cases e : m = j
    · subst e
      simp only [if_true]
      exact setL_in hn _ _
    · have ih := objL_put (ns := ns) (L := L) (O := O) hn O' m (by omega) fun i h1 h2 => hl i h1 (by omega)
      simp only [if_neg e]
      split
      · rename_i hL
        rw [setL_miss (hl m (by omega) (by omega) hL)]; exact ih
      · exact ih
/-- Two views agree at 'n' where they agree on those that touch it. -/
theorem objL_agree {ns : Nat → List (Nat × Ob)} {L : Nat → Bool} {O : Objs} {n j : Nat} : ∀ m, (∀ i, i < m → n ∈ (ns i).map (·.1) → (L i = true ↔ i < j)) → objL ns L O m n = objL ns (fun _ => true) O (min m j) n
  | 0, _ => by simp [objL]
  | m + 1, h => by
    have ih := objL_agree (ns := ns) (L := L) (O := O) (n := n) (j := j) m fun i hi => h i (by omega)
    by_cases hmj : m < j
    · have e : min (m + 1) j = m + 1 := by omega
      have e2 : min m j = m := by omega
      rw [e2] at ih
      rw [e]
      simp only [objL, if_true]
      by_cases hn : n ∈ (ns m).map (·.1)
      · rw [if_pos ((h m (by omega) hn).2 hmj)]; exact setL_in hn _ _
      · rw [setL_miss hn]
        split
        · rw [setL_miss hn]; exact ih
        · exact ih
    · have e : min (m + 1) j = min m j := by omega
      rw [e]
      simp only [objL]
      split
      · rename_i hL
        by_cases hn : n ∈ (ns m).map (·.1)
        · exact absurd ((h m (by omega) hn).1 hL) hmj
        · rw [setL_miss hn]; exact ih
      · exact ih
theorem setL_val {n : Nat} {ob : Ob} {O : Objs} : ∀ {l : List (Nat × Ob)}, setL l O n = some ob → (n, ob) ∈ l ∨ O n = some ob
  | [], h => .inr h
  | (k, o) :: r, h => by
    simp only [setL, setO] at h
    split at h
    · rename_i e; injection h with h; subst e; subst h; exact .inl (by simp)
    · exact (setL_val h).imp (List.mem_cons_of_mem _) id
theorem objL_src {ns : Nat → List (Nat × Ob)} {L : Nat → Bool} {O : Objs} {n : Nat} {ob : Ob} : ∀ m, objL ns L O m n = some ob → O n = some ob ∨ ∃ i, i < m ∧ L i = true ∧ (n, ob) ∈ ns i
  | 0, h => .inl h
  | m + 1, h => by
    simp only [objL] at h
    split at h
    · rename_i hL
      rcases setL_val h with g | g
      · exact .inr ⟨m, by omega, hL, g⟩
      · exact (objL_src m g).imp id fun ⟨i, h1, h2, h3⟩ => ⟨i, by omega, h2, h3⟩
    · exact (objL_src m h).imp id fun ⟨i, h1, h2, h3⟩ => ⟨i, by omega, h2, h3⟩

theorem refs_putCells {cs : List SV} {n : Nat} : ∀ {vs : List SV} {cs : List SV} {off : Nat}, n ∈ SV.refsL (putCells cs off vs) → n ∈ SV.refsL cs ∨ n ∈ SV.refsL vs
  | [], cs, off, h => .inl h
  | v :: r, cs, off, h => by
    simp only [putCells] at h
    rcases refs_putCells (cs := cs) h with g | g
    · have : ∀ (cs : List SV) (off : Nat), n ∈ SV.refsL (cs.set off v) → n ∈ SV.refsL cs ∨ n ∈ v.refs := by
        intro cs
        induction cs with
        | nil => intro off h; simp [SV.refsL] at h
        | cons c cs ih =>
          intro off h
          cases off with
          | zero =>
            simp only [List.set_cons_zero, SV.refsL, List.mem_append] at h ⊢
            exact h.elim .inr fun h => .inl (.inr h)
          | succ off =>
            simp only [List.set_cons_succ, SV.refsL, List.mem_append] at h ⊢
            rcases h with h | h
            · exact .inl (.inl h)
            · exact (ih off h).imp .inr id
      rcases this cs off g with h | h
      · exact .inl h
      · exact .inr (by simp only [SV.refsL, List.mem_append]; exact .inl h)
    · exact .inr (by simp only [SV.refsL, List.mem_append]; exact .inr g)

/-- A store in the open part. -/
theorem stepM_store {Γ : Gam} {d : Option Nat} {O : Objs} {ρ : Od → SV} {n : Nat} {y x : Od} {p : SV × List (Nat × Ob)} (h : stepM Γ d O ρ (.store n y x) = some p) : ∃ m off cs vs, y = .t m ∧ ρ y = .bx m off ∧ O m = some (.box cs) ∧ cellsA O (ρ x) = some vs ∧ vs.length = n ∧ off + n ≤ cs.length ∧ vs.all (okCell O) = true ∧ (∀ k ∈ SV.refsL vs, O k ≠ none) ∧ p = (.un, [(m, .box (putCells cs off vs))]) := by
  cases y with
  | t tn =>
    simp only [stepM] at h
    split at h
    · rename_i m off hb
      split at h
      · rename_i cs vs hm hv
        split at h
        · rename_i hc
          injection h with h
          obtain ⟨rfl, h1, h2, h3, h4⟩ := hc
          refine ⟨m, off, cs, vs, rfl, hb, hm, hv, h1, h2, h3, fun k hk e => ?_, h.symm⟩
          have := List.all_eq_true.1 h4 k hk
          simp [e] at this
        · cases h
      · cases h
    · cases h
  | c _ => simp [stepM] at h
  | f _ => simp [stepM] at h

mutual
theorem snap_same {O O' : Objs} : ∀ (k : Nat) {sv : SV}, (∀ n ∈ sv.refs, O n = none ∧ O' n = none) → snap O k sv = snap O' k sv
  | _, .p _, _ => by simp [snap]
  | 0, .ag _, _ => by simp [snap]
  | 0, .cl _ _ _, _ => by simp [snap]
  | 0, .bx _ _, _ => by simp [snap]
  | 0, .ar _, _ => by simp [snap]
  | 0, .sub _ _ _, _ => by simp [snap]
  | 0, .mp _, _ => by simp [snap]
  | 0, .el _ _ _, _ => by simp [snap]
  | 0, .tp _, _ => by simp [snap]
  | 0, .un, _ => by simp [snap]
  | 0, .junk, _ => by simp [snap]
  | k + 1, .tp _, _ => by simp [snap]
  | k + 1, .un, _ => by simp [snap]
  | k + 1, .junk, _ => by simp [snap]
  | k + 1, .ag cs, h => by
    simp only [snap]
    rw [snapL_same k fun n hn => h n (by simpa [SV.refs] using hn)]
  | k + 1, .cl f a b, h => by
    simp only [snap]
    rw [snapL_same k (cs := a) fun n hn => h n (by simp only [SV.refs, List.mem_append]; exact .inl hn), snapL_same k (cs := b) fun n hn => h n (by simp only [SV.refs, List.mem_append]; exact .inr hn)]
  | k + 1, .bx n _, h => by simp only [snap]; rw [(h n (by simp [SV.refs])).1, (h n (by simp [SV.refs])).2]
  | k + 1, .ar n, h => by simp only [snap]; rw [(h n (by simp [SV.refs])).1, (h n (by simp [SV.refs])).2]
  | k + 1, .sub n _ _, h => by simp only [snap]; rw [(h n (by simp [SV.refs])).1, (h n (by simp [SV.refs])).2]
  | k + 1, .mp n, h => by simp only [snap]; rw [(h n (by simp [SV.refs])).1, (h n (by simp [SV.refs])).2]
  | k + 1, .el n _ _, h => by simp only [snap]; rw [(h n (by simp [SV.refs])).1, (h n (by simp [SV.refs])).2]
theorem snapL_same {O O' : Objs} : ∀ (k : Nat) {cs : List SV}, (∀ n ∈ SV.refsL cs, O n = none ∧ O' n = none) → cs.mapM (snap O k) = cs.mapM (snap O' k)
  | _, [], _ => rfl
  | k, c :: r, h => by
    simp only [List.mapM_cons]
    rw [snap_same k fun n hn => h n (by simp only [SV.refsL, List.mem_append]; exact .inl hn), snapL_same k fun n hn => h n (by simp only [SV.refsL, List.mem_append]; exact .inr hn)]
end
theorem mapM_same {α β : Type} {f g : α → Option β} : ∀ {l : List α}, (∀ x ∈ l, f x = g x) → l.mapM f = l.mapM g
  | [], _ => rfl
  | x :: r, h => by
    simp only [List.mapM_cons]
    rw [h x (by simp), mapM_same fun y hy => h y (by simp [hy])]
theorem lendO_some {O : Objs} : ∀ {le : List Nat} {ext : List Ob} {f : Ob → Ob}, (le.mapM fun n => (O n).map f) = some ext → ∀ n ∈ le, O n ≠ none
  | [], _, _, _, n, hn => by simp at hn
  | x :: r, ext, f, h, n, hn => by
    simp only [List.mapM_cons] at h
    cases hx : O x with
    | none => simp [hx] at h
    | some ob =>
      cases hr : r.mapM (fun n => (O n).map f) with
      | none => simp [hr] at h
      | some m =>
        rcases List.mem_cons.1 hn with e | hn
        · subst e; simp [hx]
        · exact lendO_some hr n hn
/-- A call that lends, with more in sight. -/
theorem callC_hide {Γ : Gam} {O : Objs} {ex le : List Nat} {d own : Nat} {fv : SV} {args a b : List SV} {g : FuncId} {q : SV × List (Nat × Ob) × List (Nat × Ob)} (hc : callee fv = some (g, a, b)) (hall : ((a ++ args ++ b).all fun v => v.refs.all fun n => le.contains n) = true)
    (h : callC Γ (hideO ex O) d own le fv args = some q) : callC Γ O d own le fv args = some q ∧ ∀ n ∈ le, n ∉ ex ∧ O n ≠ none := by
  unfold callC at h ⊢
  rw [hc] at h ⊢
  simp only at h ⊢
  have e1 : (a ++ args ++ b).mapM (argC (hideO ex O) le) = (a ++ args ++ b).mapM (argC O le) := mapM_same fun v hv => by
    have hr := List.all_eq_true.1 hall v hv
    have : snap (hideO le (hideO ex O)) 6 v = snap (hideO le O) 6 v := snap_same 6 fun n hn => by
      have hn' : n ∈ le := by simpa using List.all_eq_true.1 hr n hn
      exact ⟨hideO_in hn', hideO_in hn'⟩
    unfold argC
    rw [this]
  rw [e1] at h
  split at h
  · rename_i as ext has hext
    have hle := lendO_some hext
    have hex : ∀ n ∈ le, n ∉ ex := fun n hn hx => hle n hn (hideO_in hx)
    have e2 : lendO (hideO ex O) le = lendO O le := mapM_same fun n hn => by rw [hideO_out (hex n hn)]
    rw [e2] at hext
    rw [has, hext]
    exact ⟨h, fun n hn => ⟨hex n hn, by have := hle n hn; rwa [hideO_out (hex n hn)] at this⟩⟩
  · cases h
theorem stepM_lend {Γ : Gam} {d : Option Nat} {O : Objs} {ex : List Nat} {ρ : Od → SV} {f : Od} {args : List Od} {le : List Nat} {own : Nat} {fzs : Bool} (hle : le ≠ []) {p : SV × List (Nat × Ob)} (h : stepM Γ d (hideO ex O) ρ (.callL f args le own fzs) = some p) : own = 0 ∧ fzs = false ∧ (∃ new, callC Γ O (d.getD 0) 0 le (ρ f) (args.map ρ) = some (p.1, p.2, new)) ∧ (∀ n ∈ p.2.map (·.1), n ∈ le) ∧ (∀ n ∈ le, n ∉ ex ∧ O n ≠ none) ∧ ∀ q ∈ p.2, plainOb q.2 = true := by
  cases le with
  | nil => exact absurd rfl hle
  | cons l r =>
    cases own with
    | succ _ => cases h
    | zero => cases fzs with
      | true => cases h
      | false =>
        simp only [stepM] at h
        split at h
        · rename_i g a b hc
          split at h
          · rename_i hall
            split at h
            · rename_i v upd new hcc
              split at h
              · rename_i hpl
                injection h with h; subst h
                obtain ⟨g1, g2⟩ := callC_hide hc hall hcc
                exact ⟨rfl, rfl, ⟨new, g1⟩, callC_up g1, g2, fun q hq => List.all_eq_true.1 hpl q hq⟩
              · cases h
            · cases h
          · cases h
        · cases h
theorem callC_new0 {Γ : Gam} {O : Objs} {d : Nat} {le : List Nat} {fv v : SV} {args : List SV} {upd new : List (Nat × Ob)} (h : callC Γ O d 0 le fv args = some (v, upd, new)) : new = [] := by
  have := (callC_new h).1
  cases new with
  | nil => rfl
  | cons q r => have := this q.1 (by simp); simp [nms] at this

theorem loadA_up {O O' : Objs} (hO : ∀ n, O n = O' n ∨ O n = none) {ag : Bool} {k : Nat} {v u : SV} (h : loadA O ag k v = some u) : loadA O' ag k v = some u := by
  cases v with
  | bx m off =>
    simp only [loadA] at h ⊢
    rcases hO m with e | e
    · rw [← e]; exact h
    · rw [e] at h; cases h
  | el m i j =>
    simp only [loadA] at h ⊢
    rcases hO m with e | e
    · rw [← e]; exact h
    · rw [e] at h; cases h
  | p v => cases v <;> exact h
  | _ => simp [loadA] at h
theorem exR_mem {ro : RO} {ex : List Nat} {n : Nat} (h : n ∈ ex) (hn : n < 1000000) : n ∈ exR ro ex := by
  unfold exR
  split
  · rename_i op _
    cases op <;> simp only [exL] <;> first | exact h | exact List.mem_filter.2 ⟨h, by simpa using hn⟩
  · exact h
theorem exL_or (op : DOp) (ex : List Nat) : exL op ex = ex ∨ (∃ ag n a, op = .load ag n a) ∨ ∃ x, op = .mv x := by
  cases op <;> first | exact .inl rfl | exact .inr (.inl ⟨_, _, _, rfl⟩) | exact .inr (.inr ⟨_, rfl⟩)

theorem cellsA_up {O O' : Objs} (hO : ∀ n, O n = O' n ∨ O n = none) {v : SV} {cs : List SV} (h : cellsA O v = some cs) : cellsA O' v = some cs := by
  have up : ∀ n, (O n).isSome = true → (O' n).isSome = true := fun n hn => by rcases hO n with e | e; rw [← e]; exact hn; rw [e] at hn; cases hn
  cases v <;> simp only [cellsA] at h ⊢ <;> first | exact h | skip
  all_goals
    split at h
    · rename_i hn; rw [if_pos (up _ hn)]; exact h
    · cases h
theorem okCell_up {O O' : Objs} (hO : ∀ n, O n = O' n ∨ O n = none) {v : SV} (h : okCell O v = true) : okCell O' v = true := by
  have up : ∀ n, (O n).isSome = true → (O' n).isSome = true := fun n hn => by rcases hO n with e | e; rw [← e]; exact hn; rw [e] at hn; cases hn
  cases v <;> simp only [okCell] at h ⊢ <;> first | exact h | exact up _ h | skip
  rename_i v
  cases v <;> simp_all [okCell]

theorem any_body (hΓ : GS P Γ) {Ka : Env → Objs → Prop} (hQ : ∀ σ O a w, Ka σ O → At w0 S0 β0 O0 N σ O a w → Q .normal a w) {ros : List RO} (hros : rosOf P ann ops ops.toList = some ros) (hN : ∀ o ∈ ops.toList, ∀ d, o.dst = some d → d < N)
    {k : Nat} (hkn : k ≤ ops.size) (hback : backOk ops.toList = true) (htail : tailOk (preds ops.toList) k = true) (hbody : bodyOk (preds ops.toList) ros k = true) (hB : (ros.take k).all isB = true) {pend all : List Nat} (hpend : (ros.take k).flatMap madeBy = pend) (hpn : pend.Nodup) (hno : ∀ n ∈ pend, NoRef n σ O)
    (hall0 : ∀ i, i < k → ∀ n ∈ touch (ros.getD i default), n ∈ all) {ex : Nat → List Nat} (hex : ∀ j, ex j = exOf (preds ops.toList) ros all k j)
    (hcan : ∀ j, j < k → okB Γ (ex j) (ros.getD j default) (canB Γ ex (fun j => ros.getD j default) σ O j).1 (canB Γ ex (fun j => ros.getD j default) σ O j).2)
    (hfin : runOps Γ (ros.drop k) (canB Γ ex (fun j => ros.getD j default) σ O k).1 (canB Γ ex (fun j => ros.getD j default) σ O k).2 Ka) {vs : Nat → SV} {ns : Nat → List (Nat × Ob)}
    (hvs : vs = fun i => (resB Γ (ex i) (ros.getD i default) (canB Γ ex (fun j => ros.getD j default) σ O i).1 (canB Γ ex (fun j => ros.getD j default) σ O i).2).1)
    (hns : ns = fun i => (resB Γ (ex i) (ros.getD i default) (canB Γ ex (fun j => ros.getD j default) σ O i).1 (canB Γ ex (fun j => ros.getD j default) σ O i).2).2) :
    ∀ (fuel : Nat) (listed : Array Bool) (a : Act) (w : World), listed.count false ≤ fuel → listed.size = ops.size → (∀ j, j < ops.size → k ≤ j → listed.getD j false = false) →
      (∀ j o, ops[j]? = some o → listed.getD j false = true → ∀ i, edge o i = true → listed.getD i false = true) →
      At w0 S0 β0 O0 N (envL ros vs (fun i => listed.getD i false) σ k) (objL ns (fun i => listed.getD i false) O k) a w → wpAny P .any ops Q fuel listed a w := by
  obtain ⟨hlen, hget⟩ := rosOf_get hros
  simp only [Array.length_toList] at hlen hget
  have hcanE : ∀ m, canB Γ ex (fun j => ros.getD j default) σ O m = (envL ros vs (fun _ => true) σ m, objL ns (fun _ => true) O m) := fun m => by rw [can_envL, hvs, hns]
  have hbody' : ∀ i j, i < j → j < k → i ∈ (preds ops.toList).getD j [] ∨ (ros.getD i default).apart (ros.getD j default) = true := fun i j hij hj => by
    simp only [bodyOk, List.all_eq_true, List.mem_range, Bool.or_eq_true] at hbody
    exact (hbody j hj i hij).imp (fun h => by simpa using h) id
  have htk : ∀ i, i < k → ∃ h : i < (ros.take k).length, (ros.take k)[i] = ros.getD i default := fun i hi => ⟨by simp; omega, by simp [show i < ros.length by omega]⟩
  have hmp : ∀ n, n ∈ pend ↔ ∃ i, i < k ∧ n ∈ madeBy (ros.getD i default) := fun n => by
    rw [← hpend, List.mem_flatMap]
    constructor
    · rintro ⟨r, hr, hn⟩
      obtain ⟨i, hi, e⟩ := List.getElem_of_mem hr
      have hik : i < k := by simp at hi; omega
      obtain ⟨_, e2⟩ := htk i hik
      exact ⟨i, hik, by rw [← e2, e]; exact hn⟩
    · rintro ⟨i, hi, hn⟩
      obtain ⟨h, e⟩ := htk i hi
      exact ⟨_, List.getElem_mem h, by rw [e]; exact hn⟩
  have huniq : ∀ n i j, i < k → j < k → n ∈ madeBy (ros.getD i default) → n ∈ madeBy (ros.getD j default) → i = j := fun n i j hi hj h1 h2 => by
    rw [← hpend, List.nodup_iff_pairwise_ne, List.pairwise_flatMap] at hpn
    have hp := List.pairwise_iff_getElem.1 hpn.2
    obtain ⟨g1, e1⟩ := htk i hi
    obtain ⟨g2, e2⟩ := htk j hj
    rcases Nat.lt_trichotomy i j with h | h | h
    · exact absurd rfl (hp i j g1 g2 h n (by rw [e1]; exact h1) n (by rw [e2]; exact h2))
    · exact h
    · exact absurd rfl (hp j i g2 g1 h n (by rw [e2]; exact h2) n (by rw [e1]; exact h1))
  have hsomeB : ∀ i, i < k → ∀ op, (ros.getD i default).op = .w op → (∀ n y x, op ≠ .store n y x) → (ros.getD i default).dst.isSome = true := fun i hi op he hst => by
    obtain ⟨g, e⟩ := htk i hi
    have := List.all_eq_true.1 hB _ (List.getElem_mem g)
    rw [e] at this
    generalize ros.getD i default = r at this he
    obtain ⟨dst, gd, aop⟩ := r
    simp only at he; subst he
    cases dst with
    | some d => rfl
    | none =>
      cases op with
      | store n y x => exact absurd rfl (hst n y x)
      | _ => simp [isB] at this
  have htouch : ∀ i n, n ∈ madeBy (ros.getD i default) → n ∈ touch (ros.getD i default) := fun i n h => by
    unfold touch
    split
    · rename_i heq
      rw [heq] at h
      simp [madeBy] at h
    · rename_i heq
      rw [heq] at h
      simp [madeBy] at h
    · exact h
  -- of those that only make things
  have hns_M : ∀ i, i < k → (∀ op, (ros.getD i default).op = .w op → op.isUp = false) → (∀ n ∈ (ns i).map (·.1), n ∈ madeBy (ros.getD i default)) ∧ ∀ q ∈ ns i, plainOb q.2 = true := fun i hi hst => by
    have := hcan i hi
    rw [hns]
    simp only []
    rcases this with ⟨_, _, ⟨op, he, h1, h2⟩ | ⟨op, he, h1⟩⟩ | ⟨_, h2⟩
    · rw [h2]; simp
    · have hup := hst op he
      have hst' : ∀ n y x, op ≠ .store n y x := fun n y x e => by rw [e] at hup; cases hup
      exact stepM_made he h1 (hsomeB i hi op he hst') hup
    · rw [h2]; simp
  -- of those that lend
  have hns_L : ∀ i, i < k → ∀ f l le own fzs, le ≠ [] → (ros.getD i default).op = .w (.callL f l le own fzs) → ns i = [] ∨ (own = 0 ∧ fzs = false ∧ (∀ n ∈ (ns i).map (·.1), n ∈ le ∧ n ∉ ex i) ∧ ∀ q ∈ ns i, plainOb q.2 = true) := fun i hi f l le own fzs hle he => by
    have := hcan i hi
    rw [hns]
    simp only []
    rcases this with ⟨_, _, ⟨op, he', h1, h2⟩ | ⟨op, he', h1⟩⟩ | ⟨_, h2⟩
    · rw [he] at he'; cases he'
    · rw [he] at he'; injection he' with he'; subst he'
      obtain ⟨e1, e2, _, e4, e5, e6⟩ := stepM_lend hle h1
      exact .inr ⟨e1, e2, fun n hn => ⟨e4 n hn, (e5 n (e4 n hn)).1⟩, e6⟩
    · exact .inl (by rw [h2])
  have hcl3 : ∀ i, (∃ m y x, (ros.getD i default).op = .w (.store m y x)) ∨ (∃ f l le own fzs, le ≠ [] ∧ (ros.getD i default).op = .w (.callL f l le own fzs)) ∨ ∀ op, (ros.getD i default).op = .w op → op.isUp = false := fun i => by
    cases he : (ros.getD i default).op with
    | d op => exact .inr (.inr fun op h => by cases h)
    | w op =>
      cases op with
      | store m y x => exact .inl ⟨m, y, x, rfl⟩
      | callL f l le own fzs =>
        cases le with
        | nil => exact .inr (.inr fun op h => by injection h with h; subst h; rfl)
        | cons x r => exact .inr (.inl ⟨f, l, x :: r, own, fzs, by simp, rfl⟩)
      | _ => exact .inr (.inr fun op h => by injection h with h; subst h; rfl)
  -- of those that write
  have hns_U : ∀ i, i < k → ∀ n y x, (ros.getD i default).op = .w (.store n y x) → ns i = [] ∨ ∃ m off cs vs', y = .t m ∧ (canB Γ ex (fun j => ros.getD j default) σ O i).2 m = some (.box cs) ∧ m ∉ ex i ∧ (∀ q ∈ SV.refsL vs', q ∉ ex i) ∧ ns i = [(m, .box (putCells cs off vs'))] := fun i hi n y x he => by
    have := hcan i hi
    rw [hns]
    simp only []
    rcases this with ⟨_, _, ⟨op, he', h1, h2⟩ | ⟨op, he', h1⟩⟩ | ⟨_, h2⟩
    · rw [he] at he'; cases he'
    · rw [he] at he'; injection he' with he'; subst he'
      obtain ⟨m, off, cs, vs', e1, _, e3, _, _, _, _, e8, e9⟩ := stepM_store h1
      have hm : m ∉ ex i := fun h => by rw [hideO_in h] at e3; cases e3
      refine .inr ⟨m, off, cs, vs', e1, by rw [hideO_out hm] at e3; exact e3, hm, fun q hq h => e8 q hq (hideO_in h), by rw [e9]⟩
    · exact .inl (by rw [h2])
  have hns_sub : ∀ i, i < k → ∀ n ∈ (ns i).map (·.1), n ∈ touch (ros.getD i default) ∧ (n ∈ madeBy (ros.getD i default) ∨ n ∉ ex i) := fun i hi n hn => by
    rcases hcl3 i with ⟨m, y, x, he⟩ | ⟨f, l, le, own, fzs, hle, he⟩ | hst
    · rcases hns_U i hi m y x he with h | ⟨m', off, cs, vs', e1, _, e3, _, e5⟩
      · rw [h] at hn; simp at hn
      · rw [e5] at hn
        simp only [List.map_cons, List.map_nil, List.mem_singleton] at hn
        subst hn
        refine ⟨?_, .inr e3⟩
        generalize ros.getD i default = r at he
        obtain ⟨dst, gd, aop⟩ := r
        simp only at he; subst he; subst e1
        simp [touch]
    · rcases hns_L i hi f l le own fzs hle he with h | ⟨e1, e2, e3, _⟩
      · rw [h] at hn; simp at hn
      · refine ⟨?_, .inr (e3 n hn).2⟩
        have hnl := (e3 n hn).1
        subst e1; subst e2
        generalize ros.getD i default = r at he
        obtain ⟨dst, gd, aop⟩ := r
        simp only at he; subst he
        cases le with
        | nil => exact absurd rfl hle
        | cons x q => exact hnl
    · have := (hns_M i hi hst).1 n hn
      exact ⟨htouch i n this, .inl this⟩
  have hexm : ∀ n j, n ∉ ex j → ∀ i, i < k → i ≠ j → n ∈ touch (ros.getD i default) → i ∈ (preds ops.toList).getD j [] ∨ (j ∈ (preds ops.toList).getD i [] ∧ n ∉ madeBy (ros.getD i default)) := fun n j hn i hi hij ht => by
    rw [hex, exOf, List.mem_filter, not_and] at hn
    have h1 := hn (hall0 i hi n ht)
    have h1 : ((List.range k).any fun i => !(i == j) && (touch (ros.getD i default)).contains n && !((preds ops.toList).getD j []).contains i && (!((preds ops.toList).getD i []).contains j || (madeBy (ros.getD i default)).contains n)) = false := by simpa using h1
    rw [List.any_eq_false] at h1
    have h2 := h1 i (List.mem_range.2 hi)
    have t1 : (touch (ros.getD i default)).contains n = true := List.contains_iff_mem.2 ht
    have tij : (i == j) = false := by simpa using hij
    by_cases c1 : i ∈ (preds ops.toList).getD j []
    · exact .inl c1
    · refine .inr ?_
      have b1 : ((preds ops.toList).getD j []).contains i = false := by rw [← Bool.not_eq_true, List.contains_iff_mem]; exact c1
      rw [t1, tij, b1] at h2
      by_cases c2 : j ∈ (preds ops.toList).getD i []
      · refine ⟨c2, fun c3 => ?_⟩
        rw [List.contains_iff_mem.2 c3] at h2
        simp at h2
      · have b2 : ((preds ops.toList).getD i []).contains j = false := by rw [← Bool.not_eq_true, List.contains_iff_mem]; exact c2
        rw [b2] at h2
        simp at h2
  have hpre_lt : ∀ j, j < ops.size → ∀ i ∈ (preds ops.toList).getD j [], i < j := fun j hj => by
    have hb : ∀ q, q < ops.size → ∀ p ∈ edgesOf (ops.toList.getD q default), p < q := fun q hq p hp => by
      obtain ⟨e, he, hb, hon⟩ := edge_iff.1 (mem_edgesOf.1 hp)
      simp only [backOk, List.all_eq_true, List.mem_range, Array.length_toList, Bool.or_eq_true, decide_eq_true_eq, Bool.not_eq_true'] at hback
      rcases hback q hq e (by simpa using he) with g | g
      · omega
      · rw [hb] at g; cases g
    refine preds_mem (L := fun q => q < j) (fun q hq hLq p hp => ?_) (by simpa using hj) (fun p hp => hb j hj p hp)
    have := hb q (by simpa using hq) p hp; omega
  intro fuel
  induction fuel with
  | zero =>
    intro listed a w hc hsz hnl hcl hat
    have hall : ∀ i, i < ops.size → listed.getD i false = true := fun i hi => by rw [← getD_tf (by omega)]; exact count_zero (by omega) i
    have hk : k = ops.size := by
      rcases Nat.lt_or_ge k ops.size with h | h
      · have := hnl k h (Nat.le_refl _); rw [hall k h] at this; cases this
      · omega
    refine any_tail hΓ hQ hros hN hback htail 0 k listed _ _ a w hc hsz (Nat.le_refl _) hkn (fun i hi => by rw [getD_tf (by omega), hall i hi]; simp; omega) hfin ?_
    rw [hcanE]
    rw [envL_congr (L := fun i => listed.getD i false) (L' := fun _ => true) (fun i hi => hall i (by omega)) fun _ _ => rfl, objL_congr (L := fun i => listed.getD i false) (L' := fun _ => true) fun i hi => hall i (by omega)] at hat
    exact hat
  | succ fuel ih =>
    intro listed a w hc hsz hnl hcl hat
    by_cases hall : ∀ i, i < k → listed.getD i false = true
    · refine any_tail hΓ hQ hros hN hback htail (fuel + 1) k listed _ _ a w hc hsz (Nat.le_refl _) hkn (fun i hi => ?_) hfin ?_
      · rw [getD_tf (by omega)]
        rcases Nat.lt_or_ge i k with h | h
        · rw [hall i h]; simp [h]
        · rw [hnl i hi h]; simp; omega
      · rw [hcanE]
        rw [envL_congr (L := fun i => listed.getD i false) (L' := fun _ => true) (fun i hi => hall i (by omega)) fun _ _ => rfl, objL_congr (L := fun i => listed.getD i false) (L' := fun _ => true) fun i hi => hall i (by omega)] at hat
        exact hat
    · refine ⟨fun hr => absurd (fun i hi => ready_nil hsz hback hr i (by omega)) hall, fun j hj => ?_⟩
      obtain ⟨hun, o, ho, hed⟩ := mem_ready.1 hj
      have hjn : j < ops.size := (Array.getElem?_eq_some_iff.1 ho).1
      have hoe : ops.toList.getD j default = o := by simp [ho]
      have hed' : ∀ i, edge o i = true → listed.getD i false = true := fun i hi => by
        obtain ⟨e, he, hb, hon⟩ := edge_iff.1 hi
        rw [← hon]; exact hed e he hb
      have hunf : listed.getD j false = false := by rw [← getD_tf (by omega)]; exact hun
      have hclL : ∀ q, q < ops.toList.length → listed.getD q false = true → ∀ p ∈ edgesOf (ops.toList.getD q default), listed.getD p false = true := fun q hq hLq p hp => by
        have hq' : q < ops.size := by simpa using hq
        exact hcl q ops[q] (by simp [hq']) hLq p (by have := mem_edgesOf.1 hp; simpa [hq'] using this)
      have hpre : ∀ p ∈ (preds ops.toList).getD j [], listed.getD p false = true := preds_mem (L := fun q => listed.getD q false = true) hclL (by simpa using hjn) fun p hp => by
        rw [hoe] at hp; exact hed' p (mem_edgesOf.1 hp)
      have hpreL : ∀ q, q < ops.size → listed.getD q false = true → ∀ p ∈ (preds ops.toList).getD q [], listed.getD p false = true := fun q hq hL => preds_mem (L := fun q => listed.getD q false = true) hclL (by simpa using hq) (hclL q (by simpa using hq) hL)
      have hjk : j < k := by
        rcases Nat.lt_or_ge j k with h | h
        · exact h
        · exfalso
          simp only [tailOk, List.all_eq_true, List.mem_range, preds_len, Array.length_toList, Bool.or_eq_true, decide_eq_true_eq] at htail
          rcases htail j hjn with h2 | h2
          · omega
          · exact hall fun i hi => hpre i (by simpa using h2 i (by omega))
      have hjr : j < ros.length := by omega
      have hro : roOf P ann ops o = some (ros.getD j default) := by
        have := hget j hjn hjr
        have e : ops.toList[j]'(by simpa using hjn) = o := by
          have := Array.getElem?_eq_some_iff.1 ho
          simpa using this.2
        rw [e] at this
        rw [this]; simp [hjr]
      have hNo : ∀ d, o.dst = some d → d < N := hN o (by rw [← Array.mem_def]; exact Array.mem_of_getElem? ho)
      obtain ⟨hg, hop, hdst, hdb⟩ := roOf_inv hro
      generalize hL : (fun i => listed.getD i false) = L at hat
      have hLi : ∀ i, listed.getD i false = L i := fun i => by rw [← hL]
      have hLj : L j = false := by rw [← hLi]; exact hunf
      have hpreJ : ∀ p ∈ (preds ops.toList).getD j [], L p = true := fun p hp => by rw [← hLi]; exact hpre p hp
      have hpreLL : ∀ q, q < k → L q = true → ∀ p ∈ (preds ops.toList).getD q [], L p = true := fun q hq hLq p hp => by rw [← hLi]; exact hpreL q (by omega) (by rw [hLi]; exact hLq) p hp
      -- later ones that are done are apart
      have hlate : ∀ i, j < i → i < k → L i = true → (ros.getD j default).apart (ros.getD i default) = true := fun i h1 h2 h3 => by
        rcases hbody' j i h1 h2 with h | h
        · exfalso
          have := hpreLL i h2 h3 j h
          rw [hLj] at this; cases this
        · exact h
      have hearly : ∀ i, i < j → L i = false → (ros.getD i default).apart (ros.getD j default) = true := fun i h1 h2 => by
        rcases hbody' i j h1 hjk with h | h
        · exfalso
          have := hpreJ i h
          rw [h2] at this; cases this
        · exact h
      have hlook : ∀ s ∈ (ros.getD j default).looks, envL ros vs L σ k s = (canB Γ ex (fun j => ros.getD j default) σ O j).1 s := fun s hs => by
        rw [hcanE, envL_at (j := j) (by omega) fun i h1 h2 h3 => ?_]
        · exact envL_all fun i h1 h2 e => (RO.apart_spec (hearly i h1 h2)).1 s e hs
        · by_cases e : i = j
          · subst e; rw [hLj] at h3; cases h3
          · exact fun e' => (RO.apart_spec (hlate i (by omega) h2 h3)).2.2 s e' hs
      have hset : envL ros vs (fun i => (listed.setIfInBounds j true).getD i false) σ k = put (ros.getD j default).dst (vs j) (envL ros vs L σ k) := by
        rw [← envL_set hjk hLj fun i h1 h2 h3 d hd => (RO.apart_spec (hlate i h1 h2 h3)).2.1 d hd]
        refine envL_congr (fun i hi => ?_) fun _ _ => rfl
        by_cases e : i = j
        · subst e; rw [if_pos rfl]; have : i < listed.size := by omega
          simp [this]
        · rw [getD_set_ne false (fun h => e h.symm), if_neg e, hLi]
      have hsetO : objL ns (fun i => (listed.setIfInBounds j true).getD i false) O k = setL (ns j) (objL ns L O k) := by
        have e1 : objL ns (fun i => (listed.setIfInBounds j true).getD i false) O k = objL ns (fun i => if i = j then true else L i) O k := objL_congr fun i hi => by
          by_cases e : i = j
          · subst e; rw [if_pos rfl]; have : i < listed.size := by omega
            simp [this]
          · rw [getD_set_ne false (fun h => e h.symm), if_neg e, hLi]
        rw [e1]
        funext n
        by_cases hn : n ∈ (ns j).map (·.1)
        · refine objL_put hn _ k hjk fun i h1 h2 h3 hi => ?_
          obtain ⟨t1, c1⟩ := hns_sub j hjk n hn
          obtain ⟨t2, c2⟩ := hns_sub i h2 n hi
          have useJ : n ∉ ex j → False := fun h => by
            rcases hexm n j h i h2 (by omega) t2 with g | ⟨g, _⟩
            · have := hpre_lt j hjn i g; omega
            · have := hpreLL i h2 h3 j g; rw [hLj] at this; cases this
          have useI : n ∉ ex i → n ∈ madeBy (ros.getD j default) → False := fun h hm => by
            rcases hexm n i h j hjk (by omega) t1 with g | ⟨_, g⟩
            · have := hpreLL i h2 h3 j g; rw [hLj] at this; cases this
            · exact g hm
          rcases c1 with c1 | c1
          · rcases c2 with c2 | c2
            · have := huniq n i j h2 hjk c2 c1; omega
            · exact useI c2 c1
          · exact useJ c1
        · rw [objL_add hn, setL_miss hn]
      -- what it sees
      have hsee : ∀ n, n ∉ ex j → objL ns L O k n = (canB Γ ex (fun j => ros.getD j default) σ O j).2 n := fun n hn => by
        rw [hcanE]
        have := objL_agree (ns := ns) (L := L) (O := O) (n := n) (j := j) k fun i hi hni => ?_
        · rw [this, Nat.min_eq_right (by omega)]
        · by_cases hij : i = j
          · subst hij; rw [hLj]; simp
          · rcases hexm n j hn i hi hij (hns_sub i hi n hni).1 with g | ⟨g, _⟩
            · have := hpre_lt j hjn i g
              have := hpreJ i g
              constructor
              · intro _; omega
              · intro _; exact this
            · have hlt := hpre_lt i (by omega) j g
              constructor
              · intro h; have := hpreLL i hi h j g; rw [hLj] at this; cases this
              · intro h; omega
      have hhide : hideO (ex j) (objL ns L O k) = hideO (ex j) (canB Γ ex (fun j => ros.getD j default) σ O j).2 := by
        funext n
        by_cases hn : n ∈ ex j
        · rw [hideO_in hn, hideO_in hn]
        · rw [hideO_out hn, hideO_out hn, hsee n hn]
      -- nothing leads yet to what it makes
      have hexin : ∀ n, n ∈ madeBy (ros.getD j default) → ∀ q, q < k → L q = true → n ∈ ex q := fun n hn q hq hLq => by
        refine Classical.byContradiction fun h => ?_
        have hqj : j ≠ q := fun e => by subst e; rw [hLj] at hLq; cases hLq
        rcases hexm n q h j hjk hqj (htouch j n hn) with g | ⟨_, g⟩
        · have := hpreLL q hq hLq j g; rw [hLj] at this; cases this
        · exact g hn
      have hlt0 : ∀ n ∈ madeBy (ros.getD j default), n < 1000000 := by
        generalize ros.getD j default = r at hop hdst ⊢
        intro n hn
        obtain ⟨dst, gd, aop⟩ := r
        simp only at hop hdst hn
        cases aop with
        | d _ => simp [madeBy] at hn
        | w op =>
          cases dst with
          | none => simp [madeBy] at hn
          | some d =>
            have hd5 : d < 50000 := hdb d hdst.symm
            cases op <;> simp only [madeBy] at hn <;> first | (simp at hn; done) | (simp only [List.mem_singleton] at hn; subst hn; omega) | skip
            rename_i f lend own fzs
            cases lend with
            | cons _ _ => simp at hn
            | nil => cases fzs with
              | true => simp at hn
              | false =>
                obtain ⟨q, hq, e⟩ := mem_nms.1 hn
                have hown : own ≤ 15 := opOf_own hop
                rw [e]; exact NM_lt hd5 (by omega)
      have hnoL : ∀ n ∈ madeBy (ros.getD j default), NoRef n (envL ros vs L σ k) (objL ns L O k) := fun n hn => by
        have hnp : n ∈ pend := (hmp n).2 ⟨j, hjk, hn⟩
        have h0 := hno n hnp
        have hP : ∀ q, q < k → L q = true → ∀ m cs, (m, Ob.box cs) ∈ ns q → n ∉ SV.refsL cs := by
          intro q
          induction q using Nat.strongRecOn with
          | _ q ihq =>
            intro hq hLq m cs hm
            rcases hcl3 q with ⟨s, y, x, he⟩ | ⟨f, l, le, own, fzs, hle, he⟩ | hst
            · rcases hns_U q hq s y x he with h | ⟨m', off, cs0, vs', e1, e2, e3, e4, e5⟩
              · rw [h] at hm; simp at hm
              · rw [e5] at hm
                simp only [List.mem_singleton, Prod.mk.injEq, Ob.box.injEq] at hm
                obtain ⟨rfl, rfl⟩ := hm
                intro hr
                rcases refs_putCells (cs := cs0) hr with g | g
                · rw [hcanE] at e2
                  rcases objL_src q e2 with g2 | ⟨i, hi, _, g2⟩
                  · exact h0.2.1 _ _ g2 g
                  · have hti := (hns_sub i (by omega) m (List.mem_map.2 ⟨_, g2, rfl⟩)).1
                    have hLi' : L i = true := by
                      rcases hexm m q e3 i (by omega) (by omega) hti with g3 | ⟨g3, _⟩
                      · exact hpreLL q hq hLq i g3
                      · have := hpre_lt i (by omega) q g3; omega
                    exact ihq i hi (by omega) hLi' m cs0 g2 g
                · exact e4 n g (hexin n hn q hq hLq)
            · rcases hns_L q hq f l le own fzs hle he with h | ⟨_, _, _, e4⟩
              · rw [h] at hm; simp at hm
              · have := e4 _ hm
                simp only [plainOb, List.isEmpty_iff] at this
                simp [this]
            · have := (hns_M q hq hst).2 _ hm
              simp only [plainOb, List.isEmpty_iff] at this
              simp [this]
        refine ⟨fun i => ?_, fun m cs hm => ?_, ?_⟩
        · have key : ∀ m, m ≤ k → ∀ i, n ∉ (envL ros vs L σ m i).refs := by
            intro m
            induction m with
            | zero => intro _ i; exact h0.1 i
            | succ m ihm =>
              intro hm i
              simp only [envL]
              split
              · rename_i hLm
                have hv : n ∉ (vs m).refs := by
                  rw [hvs]
                  simp only []
                  rcases hcan m (by omega) with ⟨_, hof, _⟩ | ⟨_, e⟩
                  · intro hr
                    have := List.all_eq_true.1 hof n hr
                    have hnex : n ∉ exR (ros.getD m default) (ex m) := by simpa using this
                    exact hnex (exR_mem (hexin n hn m (by omega) hLm) (hlt0 n hn))
                  · rw [e]; simp [SV.refs]
                cases hd : (ros.getD m default).dst with
                | none => simpa [put] using ihm (by omega) i
                | some d =>
                  simp only [put]
                  split
                  · exact hv
                  · exact ihm (by omega) i
              · exact ihm (by omega) i
          exact key k (Nat.le_refl _) i
        · rcases objL_src k hm with g | ⟨i, hi, hLi', g⟩
          · exact h0.2.1 m cs g
          · exact hP i hi hLi' m cs g
        · rw [objL_miss fun i hi hLi' h => ?_]
          · exact h0.2.2
          · obtain ⟨_, c⟩ := hns_sub i hi n h
            rcases c with c | c
            · have := huniq n i j hi hjk c hn
              subst this; rw [hLj] at hLi'; cases hLi'
            · exact c (hexin n hn i hi hLi')
      have hJ : ∀ a' w', At w0 S0 β0 O0 N (put (ros.getD j default).dst (vs j) (envL ros vs L σ k)) (setL (ns j) (objL ns L O k)) a' w' → wpAny P .any ops Q fuel (listed.setIfInBounds j true) a' w' := fun a' w' hat' => by
        refine ih _ a' w' (by have := count_set hun; omega) (by simpa using hsz) (fun i h1 h2 => by rw [getD_set_ne false (by omega)]; exact hnl i h1 h2) (fun i o' ho' hi e he => ?_) (by rw [hset, hsetO]; exact hat')
        by_cases hij : i = j
        · subst hij
          rw [ho] at ho'; injection ho' with ho'; subst ho'
          exact getD_set_true (hed' e he)
        · rw [getD_set_ne false (fun h => hij h.symm)] at hi
          exact getD_set_true (hcl i o' ho' hi e he)
      have hok := hcan j hjk
      have hvj : vs j = (resB Γ (ex j) (ros.getD j default) (canB Γ ex (fun j => ros.getD j default) σ O j).1 (canB Γ ex (fun j => ros.getD j default) σ O j).2).1 := by rw [hvs]
      have hnj : ns j = (resB Γ (ex j) (ros.getD j default) (canB Γ ex (fun j => ros.getD j default) σ O j).1 (canB Γ ex (fun j => ros.getD j default) σ O j).2).2 := by rw [hns]
      have hwc : wantA (ros.getD j default).guard (envL ros vs L σ k) = wantA (ros.getD j default).guard (canB Γ ex (fun j => ros.getD j default) σ O j).1 := wantA_congr fun s t e => hlook s (by unfold RO.looks; rw [e]; simp)
      obtain ⟨S, β, g1, g2, g3, g4, g5⟩ := id hat
      have hhid := hideO_or (ex j) (objL ns L O k)
      have g2h := g2.drop hhid
      have g3h : Slots w S β (hideO (ex j) (objL ns L O k)) (envL ros vs L σ k) a.tmps := fun i => (g3 i).drop hhid
      unfold wpOp
      simp only [ho]
      rcases hok with ⟨hw, hof, ⟨op, he, hst, hnil⟩ | ⟨op, he, hst⟩⟩ | ⟨hw, hv⟩
      · rw [← hwc] at hw
        rw [want_rel g3 hg hw]
        simp only [if_true]
        rw [he] at hop
        rw [← stepD_congr (σ := envL ros vs L σ k) fun t ht => hlook t (by unfold RO.looks; rw [he]; simp [ht]), ← hhide] at hst
        rcases exL_or op (ex j) with hxe | ⟨ag, ln, la, rfl⟩ | ⟨mx, rfl⟩
        · refine .inl (simD hΓ g2h g3h hop hst fun x w' S' hgr hsr => hJ _ _ ?_)
          rw [hnj, hnil, hvj, hdst]
          refine ⟨S', β, g1.trans g2 hgr.step, g2.grow hgr, ?_, by rw [put_defers]; exact g4, by rw [put_size]; exact g5⟩
          refine Slots.put (fun i => (g3 i).grow g2 hgr) (hsr.mono (fun b hb => ⟨hb, rfl⟩) fun n hn => ?_) fun d hd => by rw [g5]; exact hNo d hd
          have hne : n ∉ ex j := by
            have := List.all_eq_true.1 hof n hn
            simp only [exR, he, hxe] at this
            simpa using this
          have e := hideO_out (O := objL ns L O k) hne
          cases hob : objL ns L O k n with
          | none => exact .inl (by simp [setL])
          | some ob => exact .inr ⟨ob, ob, by rw [e, hob], by simp [setL], likeO_refl ob, rfl, rfl⟩
        · have hst2 : stepD Γ (objL ns L O k) (ev (envL ros vs L σ k)) (.load ag ln la) = some (resB Γ (ex j) (ros.getD j default) (canB Γ ex (fun j => ros.getD j default) σ O j).1 (canB Γ ex (fun j => ros.getD j default) σ O j).2).1 := by
            simp only [stepD] at hst ⊢
            exact loadA_up hhid hst
          refine .inl (simD hΓ g2 g3 hop hst2 fun x w' S' hgr hsr => hJ _ _ ?_)
          rw [hnj, hnil, hvj, hdst]
          refine ⟨S', β, g1.trans g2 hgr.step, g2.grow hgr, ?_, by rw [put_defers]; exact g4, by rw [put_size]; exact g5⟩
          exact Slots.put (fun i => (g3 i).grow g2 hgr) hsr fun d hd => by rw [g5]; exact hNo d hd
        · have hst2 : stepD Γ (objL ns L O k) (ev (envL ros vs L σ k)) (.mv mx) = some (resB Γ (ex j) (ros.getD j default) (canB Γ ex (fun j => ros.getD j default) σ O j).1 (canB Γ ex (fun j => ros.getD j default) σ O j).2).1 := by
            simp only [stepD] at hst ⊢
            exact hst
          refine .inl (simD hΓ g2 g3 hop hst2 fun x w' S' hgr hsr => hJ _ _ ?_)
          rw [hnj, hnil, hvj, hdst]
          refine ⟨S', β, g1.trans g2 hgr.step, g2.grow hgr, ?_, by rw [put_defers]; exact g4, by rw [put_size]; exact g5⟩
          exact Slots.put (fun i => (g3 i).grow g2 hgr) hsr fun d hd => by rw [g5]; exact hNo d hd
      · rw [← hwc] at hw
        rw [want_rel g3 hg hw]
        simp only [if_true]
        rw [he] at hop
        rw [← stepM_congr (σ := envL ros vs L σ k) fun t ht => hlook t (by unfold RO.looks; rw [he]; simp [ht]), ← hhide] at hst
        by_cases hstore : ∃ s y x, op = .store s y x
        · obtain ⟨s, y, x, rfl⟩ := hstore
          obtain ⟨m, off, cs, vs', e1, e2, e3, e4, e5, e6, e7, e8, e9⟩ := stepM_store hst
          have hup : ∀ n, hideO (ex j) (objL ns L O k) n = objL ns L O k n ∨ hideO (ex j) (objL ns L O k) n = none := hhid
          have hm : objL ns L O k m = some (.box cs) := by
            rcases hup m with e | e
            · rw [← e]; exact e3
            · rw [e] at e3; cases e3
          have hW : stepW Γ o.dst (envL ros vs L σ k) (objL ns L O k) (.store s y x) = some (.un, envL ros vs L σ k, setO m (some (.box (putCells cs off vs'))) (objL ns L O k)) := by
            simp only [stepW, e2, hm, cellsA_up hup e4]
            have e7' : vs'.all (okCell (objL ns L O k)) = true := by
              rw [List.all_eq_true] at e7 ⊢
              exact fun c hc => okCell_up hup (e7 c hc)
            rw [if_pos ⟨e5, e6, e7'⟩]
          refine .inl (simW hΓ g2 g3 hop hdb hW fun x w' S' β' hstep hrel hsl hsr => hJ _ _ ⟨S', β', ?_, ?_, ?_, by rw [put_defers]; exact g4, by rw [put_size]; exact g5⟩)
          · rw [hnj, e9]; exact g1.trans g2 hstep
          · rw [hnj, e9]; exact hrel
          · rw [hdst, hvj, hnj, e9]
            exact Slots.put hsl hsr fun d hd => by rw [g5]; exact hNo d hd
        · have hns' : ∀ s y x, op ≠ .store s y x := fun s y x e => hstore ⟨s, y, x, e⟩
          rcases hcl3 j with ⟨s, y, x, he'⟩ | ⟨f, l, le, own, fzs, hle, he'⟩ | hup
          · rw [he] at he'; injection he' with he'; exact absurd he' (hns' s y x)
          · rw [he] at he'; injection he' with he'; subst he'
            obtain ⟨rfl, rfl, ⟨new, e3⟩, e4, e5, e6⟩ := stepM_lend hle hst
            have hnew := callC_new0 e3
            subst hnew
            have hfl : (le.filter fun n => (objL ns L O k n).isSome) = le := List.filter_eq_self.2 fun n hn => by
              have := (e5 n hn).2
              cases h : objL ns L O k n with
              | none => exact absurd h this
              | some _ => rfl
            have hW : stepW Γ o.dst (envL ros vs L σ k) (objL ns L O k) (.callL f l le 0 false) = some ((resB Γ (ex j) (ros.getD j default) (canB Γ ex (fun j => ros.getD j default) σ O j).1 (canB Γ ex (fun j => ros.getD j default) σ O j).2).1, envL ros vs L σ k, setL (resB Γ (ex j) (ros.getD j default) (canB Γ ex (fun j => ros.getD j default) σ O j).1 (canB Γ ex (fun j => ros.getD j default) σ O j).2).2 (objL ns L O k)) := by
              rw [hdst] at e3
              simp only [stepW, show (0 : Nat) < 100 from by decide, if_true, nms, List.range_zero, List.map_nil, freezeAll, hfl, Bool.false_eq_true, if_false, e3, setL]
            refine .inl (simW hΓ g2 g3 hop hdb hW fun x w' S' β' hstep hrel hsl hsr => hJ _ _ ⟨S', β', ?_, ?_, ?_, by rw [put_defers]; exact g4, by rw [put_size]; exact g5⟩)
            · rw [hnj]; exact g1.trans g2 hstep
            · rw [hnj]; exact hrel
            · rw [hdst, hvj, hnj]
              exact Slots.put hsl hsr fun d hd => by rw [g5]; exact hNo d hd
          have hmj := hns_M j hjk hup
          refine .inl (sim_M hΓ g2h g3h he hdst (hsomeB j hjk op he hns') (hup op he) hop hdb (fun n hn => ?_) hst fun x w' S' β' hout => hJ _ _ ?_)
          · have := hnoL n hn
            refine ⟨?_, fun m cs hm => ?_⟩
            · rcases hhid n with e | e
              · rw [e]; exact this.2.2
              · exact e
            · rcases hhid m with e | e
              · rw [e] at hm; exact this.2.1 m cs hm
              · rw [e] at hm; simp at hm
          · have hlt : ∀ n ∈ madeBy (ros.getD j default), n < 1000000 := fun n hn => by
              have hsm := hsomeB j hjk op he hns'
              generalize ros.getD j default = r at hn he hdst hsm hop
              obtain ⟨dst, gd, aop⟩ := r
              simp only at he hdst hsm hn
              subst he
              cases dst with
              | none => simp at hsm
              | some d =>
                have hd5 : d < 50000 := hdb d hdst.symm
                cases op <;> simp only [madeBy] at hn <;> first | (simp at hn; done) | (simp only [List.mem_singleton] at hn; subst hn; omega) | skip
                rename_i f l lend own fzs
                cases lend with
                | cons _ _ => simp at hn
                | nil => cases fzs with
                  | true => simp at hn
                  | false =>
                    obtain ⟨q, hq, e⟩ := mem_nms.1 hn
                    have hown : own ≤ 15 := opOf_own hop
                    rw [e]; exact NM_lt hd5 (by omega)
            obtain ⟨j1, j2, j3, j4⟩ := join g2 hout (fun n hn => by
              have hm := hmj.1 n (by rw [hnj]; exact hn)
              have := hnoL n hm
              exact ⟨this.2.2, this.2.1, hlt n hm⟩) (fun q hq => hmj.2 q (by rw [hnj]; exact hq)) (by simpa only [exR, he] using hof)
            refine ⟨S', β', ?_, ?_, ?_, by rw [put_defers]; exact g4, by rw [put_size]; exact g5⟩
            · rw [hnj]; exact g1.trans g2 j1
            · rw [hnj]; exact j2
            · rw [hdst, hvj, hnj]
              refine Slots.put (fun i => j3 _ _ (g3 i) fun n hn h => (hnoL n (hmj.1 n (by rw [hnj]; exact h))).1 i hn) j4 fun d hd => by rw [g5]; exact hNo d hd
      · rw [← hwc] at hw
        rw [want_rel g3 hg hw]
        simp only [Bool.false_eq_true, if_false]
        refine hJ _ _ ?_
        rw [hvj, hnj, hv, hdst]
        exact hat.put_un hNo
end
end Go.Proofs.YtpobnchalcokoaaDoor.Pam
