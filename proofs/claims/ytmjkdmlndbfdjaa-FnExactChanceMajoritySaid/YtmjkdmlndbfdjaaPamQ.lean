/- A part of the proof that stands in this folder: a small machine whose steps are shown to be the steps of the model. No condition of its own. -/
import Derived.Test.YtmjkdmlndbfdjaaPamP
set_option linter.unusedVariables false
set_option linter.unusedSimpArgs false
namespace Go.Proofs.Ytmjkdmlndbfdjaa.Pam
open Go

theorem edge_iff {o : Oper} {j : Nat} : edge o j = true ↔ ∃ e ∈ o.after, Region.binds .any e = true ∧ e.on = j := by
  simp only [edge, List.any_eq_true, Bool.and_eq_true, beq_iff_eq, Array.mem_toList_iff]

theorem rosOf_get {P : Program} {ann : Nat → Option Ann} {ops : Array Oper} : ∀ {l : List Oper} {ros : List RO}, rosOf P ann ops l = some ros → ros.length = l.length ∧ ∀ j (h : j < l.length) (h' : j < ros.length), roOf P ann ops l[j] = some ros[j]
  | [], ros, h => by simp [rosOf] at h; subst h; exact ⟨rfl, fun j h => by simp at h⟩
  | o :: r, ros, h => by
    obtain ⟨ro, ros', h1, h2, rfl⟩ := rosOf_cons h
    obtain ⟨h3, h4⟩ := rosOf_get h2
    refine ⟨by simp [h3], fun j hj hj' => ?_⟩
    cases j with
    | zero => exact h1
    | succ j => exact h4 j (by simpa using hj) (by simpa using hj')

section
variable {P : Program} {w w' w0 : World} {S0 : Nat → Prop} {β0 : Nat → Nat} {O0 : Objs} {N : Nat} {O O' : Objs} {σ σ' : Env} {a : Act} {ann : Nat → Option Ann} {Γ : Gam} {Q : Exit → Act → World → Prop} {ops : Array Oper} {listed : Array Bool}

theorem count_zero (h : listed.count false = 0) : ∀ i, listed.getD i true = true := by
  intro i
  rw [Array.count_eq_zero] at h
  rw [Array.getD_eq_getD_getElem?]
  cases hi : listed[i]? with
  | none => rfl
  | some b =>
    cases b with
    | true => rfl
    | false => exact absurd (Array.mem_of_getElem? hi) h

theorem count_set {j : Nat} (h : listed.getD j true = false) : (listed.setIfInBounds j true).count false + 1 = listed.count false := by
  rw [Array.getD_eq_getD_getElem?] at h
  cases hi : listed[j]? with
  | none => simp [hi] at h
  | some b =>
    simp [hi] at h; subst h
    obtain ⟨hj, he⟩ := Array.getElem?_eq_some_iff.1 hi
    have hpos : 0 < listed.count false := Array.count_pos_iff.2 (Array.mem_of_getElem? hi)
    have e : listed.setIfInBounds j true = listed.set j true hj := by simp [Array.setIfInBounds, hj]
    rw [e, Array.count_set]
    simp [he]
    omega

theorem getD_tf {i : Nat} (h : i < listed.size) : listed.getD i true = listed.getD i false := by
  simp [h]

theorem ready_nil (hsz : listed.size = ops.size) (hback : backOk ops.toList = true) (hr : Region.ready .any ops listed = []) : ∀ j, j < ops.size → listed.getD j false = true := by
  intro j
  induction j using Nat.strongRecOn with
  | _ j ih =>
    intro hj
    cases hl : listed.getD j false with
    | true => rfl
    | false =>
      exfalso
      have : j ∈ Region.ready .any ops listed := by
        refine mem_ready.2 ⟨by rw [getD_tf (by omega)]; exact hl, ops[j], by simp [hj], fun e he hb => ?_⟩
        simp only [backOk, List.all_eq_true, List.mem_range, Array.length_toList, Bool.or_eq_true, decide_eq_true_eq, Bool.not_eq_true'] at hback
        have := hback j hj e (by simpa [hj] using he)
        rcases this with h | h
        · exact ih e.on h (by omega)
        · rw [hb] at h; cases h
      rw [hr] at this; cases this

theorem any_tail (hΓ : GS P Γ) {Ka : Env → Objs → Prop} (hQ : ∀ σ O a w, Ka σ O → At w0 S0 β0 O0 N σ O a w → Q .normal a w) {ros : List RO} (hros : rosOf P ann ops ops.toList = some ros) (hN : ∀ o ∈ ops.toList, ∀ d, o.dst = some d → d < N)
    {k : Nat} (hback : backOk ops.toList = true) (htail : tailOk ops.toList k = true) :
    ∀ (fuel m : Nat) (listed : Array Bool) (σ : Env) (O : Objs) (a : Act) (w : World), listed.count false ≤ fuel → listed.size = ops.size → k ≤ m → m ≤ ops.size → (∀ i, i < ops.size → listed.getD i true = decide (i < m)) →
      runOps Γ (ros.drop m) σ O Ka → At w0 S0 β0 O0 N σ O a w → wpAny P .any ops Q fuel listed a w := by
  obtain ⟨hlen, hget⟩ := rosOf_get hros
  simp only [Array.length_toList] at hlen hget
  intro fuel
  induction fuel with
  | zero =>
    intro m listed σ O a w hc hsz hk hm hl hrun hat
    have hm' : m = ops.size := by
      rcases Nat.lt_or_ge m ops.size with h | h
      · have h1 := hl m h
        rw [count_zero (by omega)] at h1
        simp at h1
      · omega
    refine ⟨?_, ?_⟩
    · rw [List.eq_nil_iff_forall_not_mem]
      intro j hj
      have := (mem_ready.1 hj).1
      rw [count_zero (by omega)] at this; cases this
    · rw [List.drop_eq_nil_of_le (by omega)] at hrun
      exact hQ _ _ _ _ hrun hat
  | succ fuel ih =>
    intro m listed σ O a w hc hsz hk hm hl hrun hat
    refine ⟨fun hr => ?_, fun i hi => ?_⟩
    · have hm' : m = ops.size := by
        rcases Nat.lt_or_ge m ops.size with h | h
        · have h1 := hl m h
          rw [getD_tf (by omega), ready_nil hsz hback hr m h] at h1
          simp at h1
        · omega
      rw [List.drop_eq_nil_of_le (by omega)] at hrun
      exact hQ _ _ _ _ hrun hat
    · obtain ⟨hun, o, ho, hed⟩ := mem_ready.1 hi
      have hin : i < ops.size := (Array.getElem?_eq_some_iff.1 ho).1
      have hoe : ops.toList.getD i default = o := by simp [ho]
      have him : i = m := by
        have h1 := hl i hin
        rw [hun] at h1
        have h1 : ¬ i < m := by simpa using h1.symm
        rcases Nat.lt_or_ge m i with h | h
        · exfalso
          simp only [tailOk, List.all_eq_true, List.mem_range, Array.length_toList, Bool.or_eq_true, decide_eq_true_eq] at htail
          rcases htail i hin with h2 | h2
          · omega
          · have h3 := h2 m h
            rw [hoe] at h3
            obtain ⟨e, he, hb, hon⟩ := edge_iff.1 h3
            have h4 := hed e he hb
            rw [hon, ← getD_tf (by omega), hl m (by omega)] at h4
            simp at h4
        · omega
      subst him
      have hir : i < ros.length := by omega
      rw [List.drop_eq_getElem_cons hir] at hrun
      have hro : roOf P ann ops o = some ros[i] := by
        have := hget i hin hir
        rw [← this]
        have : ops.toList[i]'(by simpa using hin) = o := by
          have := Array.getElem?_eq_some_iff.1 ho
          simpa using this.2
        rw [this]
      have hNo : ∀ d, o.dst = some d → d < N := hN o (by rw [← Array.mem_def]; exact Array.mem_of_getElem? ho)
      obtain ⟨hg, hop, hdst, hdb⟩ := roOf_inv hro
      have hsz' : (listed.setIfInBounds i true).size = ops.size := by simpa using hsz
      have hcs := count_set hun
      have hl' : ∀ j, j < ops.size → (listed.setIfInBounds i true).getD j true = decide (j < i + 1) := fun j hj => by
        by_cases h : i = j
        · subst h; simp [hsz, hj]
        · rw [getD_set_ne true h, hl j hj]
          have : (j < i) ↔ (j < i + 1) := by omega
          simp [this]
      unfold wpOp
      simp only [ho]
      simp only [runOps] at hrun
      obtain ⟨S, β, g1, g2, g3, g4, g5⟩ := id hat
      split at hrun
      · rename_i hw
        rw [want_rel g3 hg hw]
        simp only [if_true]
        obtain ⟨s, hst, hk'⟩ := hrun
        exact .inl (simO hΓ hat hro hNo hst fun a' w' hat' => ih (i + 1) _ _ _ _ _ (by omega) hsz' (by omega) (by omega) hl' hk' hat')
      · rename_i hw
        rw [want_rel g3 hg hw]
        simp only [Bool.false_eq_true, if_false]
        rw [hdst] at hrun
        exact ih (i + 1) _ _ _ _ _ (by omega) hsz' (by omega) (by omega) hl' hrun (hat.put_un hNo)
      · exact hrun.elim

theorem any_body (hΓ : GS P Γ) {Ka : Env → Objs → Prop} (hQ : ∀ σ O a w, Ka σ O → At w0 S0 β0 O0 N σ O a w → Q .normal a w) {ros : List RO} (hros : rosOf P ann ops ops.toList = some ros) (hN : ∀ o ∈ ops.toList, ∀ d, o.dst = some d → d < N)
    {k : Nat} (hkn : k ≤ ops.size) (hback : backOk ops.toList = true) (htail : tailOk ops.toList k = true) (hbody : bodyOk ops.toList ros k = true)
    (hcan : ∀ m (hm : m < (ros.take k).length), okD Γ O (ros.take k)[m] (envD Γ O ((ros.take k).take m) σ)) (hfin : runOps Γ (ros.drop k) (envD Γ O (ros.take k) σ) O Ka) :
    ∀ (fuel : Nat) (listed : Array Bool) (a : Act) (w : World), listed.count false ≤ fuel → listed.size = ops.size → (∀ j, j < ops.size → k ≤ j → listed.getD j false = false) →
      (∀ j o, ops[j]? = some o → listed.getD j false = true → ∀ i, edge o i = true → listed.getD i false = true) →
      At w0 S0 β0 O0 N (envL (ros.take k) (fun i => valD Γ O ((ros.take k).getD i default) (envD Γ O ((ros.take k).take i) σ)) (fun i => listed.getD i false) σ k) O a w → wpAny P .any ops Q fuel listed a w := by
  obtain ⟨hlen, hget⟩ := rosOf_get hros
  simp only [Array.length_toList] at hlen hget
  have hbl : (ros.take k).length = k := by simp; omega
  generalize hb : ros.take k = b at hcan hfin hbl ⊢
  generalize hvs : (fun i => valD Γ O (b.getD i default) (envD Γ O (b.take i) σ)) = vs
  have hbget : ∀ i, i < k → b.getD i default = ros.getD i default := fun i hi => by
    rw [← hb]; simp [List.getElem?_take, hi]
  have hbody' : ∀ i j, i < j → j < k → edge (ops.toList.getD j default) i = true ∨ (b.getD i default).apart (b.getD j default) = true := fun i j hij hj => by
    simp only [bodyOk, List.all_eq_true, List.mem_range, Bool.or_eq_true] at hbody
    rw [hbget i (by omega), hbget j hj]
    exact hbody j hj i hij
  intro fuel
  induction fuel with
  | zero =>
    intro listed a w hc hsz hno hcl hat
    have hall : ∀ i, i < ops.size → listed.getD i false = true := fun i hi => by rw [← getD_tf (by omega)]; exact count_zero (by omega) i
    have hk : k = ops.size := by
      rcases Nat.lt_or_ge k ops.size with h | h
      · have := hno k h (Nat.le_refl _); rw [hall k h] at this; cases this
      · omega
    refine any_tail hΓ hQ hros hN hback htail 0 k listed _ _ a w hc hsz (Nat.le_refl _) hkn (fun i hi => by rw [getD_tf (by omega), hall i hi]; simp; omega) hfin ?_
    have : envL b vs (fun i => listed.getD i false) σ k = envD Γ O b σ := by
      have h1 := envD_envL Γ O b σ k (by omega)
      rw [hvs, List.take_of_length_le (by omega)] at h1
      rw [h1]
      exact envL_congr (fun i hi => hall i (by omega)) fun _ _ => rfl
    rw [← this]; exact hat
  | succ fuel ih =>
    intro listed a w hc hsz hno hcl hat
    by_cases hall : ∀ i, i < k → listed.getD i false = true
    · refine any_tail hΓ hQ hros hN hback htail (fuel + 1) k listed _ _ a w hc hsz (Nat.le_refl _) hkn (fun i hi => ?_) hfin ?_
      · rw [getD_tf (by omega)]
        rcases Nat.lt_or_ge i k with h | h
        · rw [hall i h]; simp [h]
        · rw [hno i hi h]; simp; omega
      · have : envL b vs (fun i => listed.getD i false) σ k = envD Γ O b σ := by
          have h1 := envD_envL Γ O b σ k (by omega)
          rw [hvs, List.take_of_length_le (by omega)] at h1
          rw [h1]
          exact envL_congr (fun i hi => hall i hi) fun _ _ => rfl
        rw [← this]; exact hat
    · refine ⟨fun hr => absurd (fun i hi => ready_nil hsz hback hr i (by omega)) hall, fun j hj => ?_⟩
      obtain ⟨hun, o, ho, hed⟩ := mem_ready.1 hj
      have hjn : j < ops.size := (Array.getElem?_eq_some_iff.1 ho).1
      have hoe : ops.toList.getD j default = o := by simp [ho]
      have hed' : ∀ i, edge o i = true → listed.getD i false = true := fun i hi => by
        obtain ⟨e, he, hb, hon⟩ := edge_iff.1 hi
        rw [← hon]; exact hed e he hb
      have hunf : listed.getD j false = false := by rw [← getD_tf (by omega)]; exact hun
      have hjk : j < k := by
        rcases Nat.lt_or_ge j k with h | h
        · exact h
        · exfalso
          simp only [tailOk, List.all_eq_true, List.mem_range, Array.length_toList, Bool.or_eq_true, decide_eq_true_eq] at htail
          rcases htail j hjn with h2 | h2
          · omega
          · refine hall fun i hi => hed' i ?_
            rw [← hoe]; exact h2 i (by omega)
      have hjr : j < ros.length := by omega
      have hro : roOf P ann ops o = some (b.getD j default) := by
        rw [hbget j hjk]
        have := hget j hjn hjr
        have e : ops.toList[j]'(by simpa using hjn) = o := by
          have := Array.getElem?_eq_some_iff.1 ho
          simpa using this.2
        rw [e] at this
        rw [this]; simp [hjr]
      have hNo : ∀ d, o.dst = some d → d < N := hN o (by rw [← Array.mem_def]; exact Array.mem_of_getElem? ho)
      obtain ⟨hg, hop, hdst, hdb⟩ := roOf_inv hro
      generalize hL : (fun i => listed.getD i false) = L at hat
      have hLi : ∀ i, listed.getD i false = L i := fun i => by rw [← hL]
      -- later ones that are done are apart
      have hlate : ∀ i, j < i → i < k → L i = true → (b.getD j default).apart (b.getD i default) = true := fun i h1 h2 h3 => by
        rcases hbody' j i h1 h2 with h | h
        · exfalso
          rw [← hLi] at h3
          have hio : i < ops.size := by omega
          have := hcl i ops[i] (by simp [hio]) h3 j (by simpa [hio] using h)
          rw [hunf] at this; cases this
        · exact h
      have hearly : ∀ i, i < j → L i = false → (b.getD i default).apart (b.getD j default) = true := fun i h1 h2 => by
        rcases hbody' i j h1 hjk with h | h
        · exfalso
          rw [hoe] at h
          have := hed' i h
          rw [hLi, h2] at this; cases this
        · exact h
      have hlook : ∀ s ∈ (b.getD j default).looks, envL b vs L σ k s = envD Γ O (b.take j) σ s := fun s hs => by
        rw [envL_at (j := j) (by omega) fun i h1 h2 h3 => ?_]
        · rw [envL_all fun i h1 h2 e => (RO.apart_spec (hearly i h1 h2)).1 s e hs]
          have h1 := envD_envL Γ O b σ j (by omega)
          rw [hvs] at h1
          rw [h1]
        · by_cases e : i = j
          · subst e; rw [← hLi, hunf] at h3; cases h3
          · exact fun e' => (RO.apart_spec (hlate i (by omega) h2 h3)).2.2 s e' hs
      have hset : envL b vs (fun i => (listed.setIfInBounds j true).getD i false) σ k = put (b.getD j default).dst (vs j) (envL b vs L σ k) := by
        rw [← envL_set hjk (by rw [← hLi]; exact hunf) fun i h1 h2 h3 d hd => (RO.apart_spec (hlate i h1 h2 h3)).2.1 d hd]
        refine envL_congr (fun i hi => ?_) fun _ _ => rfl
        by_cases e : i = j
        · subst e; rw [if_pos rfl]; have : i < listed.size := by omega
          simp [this]
        · rw [getD_set_ne false (fun h => e h.symm), if_neg e, hLi]
      have hJ : ∀ a' w', At w0 S0 β0 O0 N (put (b.getD j default).dst (vs j) (envL b vs L σ k)) O a' w' → wpAny P .any ops Q fuel (listed.setIfInBounds j true) a' w' := fun a' w' hat' => by
        refine ih _ a' w' (by have := count_set hun; omega) (by simpa using hsz) (fun i h1 h2 => by rw [getD_set_ne false (by omega)]; exact hno i h1 h2) (fun i o' ho' hi e he => ?_) (by rw [hset]; exact hat')
        by_cases hij : i = j
        · subst hij
          rw [ho] at ho'; injection ho' with ho'; subst ho'
          exact getD_set_true (hed' e he)
        · rw [getD_set_ne false (fun h => hij h.symm)] at hi
          exact getD_set_true (hcl i o' ho' hi e he)
      have hok := hcan j (by omega)
      have hbj : b[j]'(by omega) = b.getD j default := by simp [show j < b.length by omega]
      rw [hbj] at hok
      have hvj : vs j = valD Γ O (b.getD j default) (envD Γ O (b.take j) σ) := by rw [← hvs]
      have hwc : wantA (b.getD j default).guard (envL b vs L σ k) = wantA (b.getD j default).guard (envD Γ O (b.take j) σ) := wantA_congr fun s t e => hlook s (by unfold RO.looks; rw [e]; simp)
      obtain ⟨S, β, g1, g2, g3, g4, g5⟩ := id hat
      unfold wpOp
      simp only [ho]
      rcases hok with ⟨hw, op, he, hst⟩ | ⟨hw, hv⟩
      · rw [← hwc] at hw
        rw [want_rel g3 hg hw]
        simp only [if_true]
        refine .inl (simO (s := (put (b.getD j default).dst (vs j) (envL b vs L σ k), O)) hΓ hat hro hNo ?_ hJ)
        unfold stepA
        rw [he]
        simp only []
        rw [stepD_congr (σ' := envD Γ O (b.take j) σ) fun t ht => hlook t (by unfold RO.looks; rw [he]; simp [ht]), hst, hvj]
      · rw [← hwc] at hw
        rw [want_rel g3 hg hw]
        simp only [Bool.false_eq_true, if_false]
        refine hJ _ _ ?_
        rw [hvj, hv, hdst]
        exact hat.put_un hNo
end
end Go.Proofs.Ytmjkdmlndbfdjaa.Pam
