/- A part of the proof that stands in this folder: a small machine whose steps are shown to be the steps of the model, or walks of functions by it. No condition of its own. -/
import Derived.Test.YtpobnchalcokoaaDoorPamN
set_option linter.unusedVariables false
set_option linter.unusedSimpArgs false
namespace Go.Proofs.YtpobnchalcokoaaDoor.Pam
open Go

section
variable {P : Program} {w w' w1 : World} {S S' S2 : Nat → Prop} {β β' : Nat → Nat} {O O' : Objs} {σ σ' : Env} {a : Act} {o : Oper} {v : SV} {ann : Nat → Option Ann} {Γ : Gam} {tmps : Array Value} {K : Act → World → Prop} {Q : Exit → Act → World → Prop}

/-- An array object takes another place, or is turned in its own. -/
theorem place_rel {m b0 : Nat} {ob : Ob} (hr : Rel w S β O) (hs : Slots w S β O σ tmps) (hm : m < 1000000) (hO : O m ≠ none) (hw : ∀ b, b < w.heap.size → b ≠ b0 → w1.heap[b]? = w.heap[b]?) (hsz : w.heap.size ≤ w1.heap.size) (hb1 : b0 < w1.heap.size)
    (hb0 : b0 = β m ∨ w.heap.size ≤ b0) (hos : w1.os = w.os) (htp : w1.tape = w.tape) (hout : w1.output = w.output) (hbs : b0 < w.heap.size → bsz w1 b0 = bsz w b0)
    (hobj : OR w1 S (fun n => if n = m then b0 else β n) (setO m (some ob) (freezeO m none O)) m ob) :
    Step w w1 S S β (fun n => if n = m then b0 else β n) O (setO m (some ob) (freezeO m none O)) ∧ Rel w1 S (fun n => if n = m then b0 else β n) (setO m (some ob) (freezeO m none O)) ∧
      Slots w1 S (fun n => if n = m then b0 else β n) (setO m (some ob) (freezeO m none O)) (freezeE m none σ) tmps := by
  have hr1 := hr.freeze (S2 := S) (n := m) (q := none) (.inl rfl) (fun _ h => h) (fun h => absurd rfl h) (fun _ h => .inl h)
  have hfz : ∀ n, freezeO m none O n ≠ none → n ≠ m ∧ O n ≠ none := fun n hn => by
    rcases freezeO_cases m none O n with ⟨_, e⟩ | ⟨h, ⟨_, e⟩ | ⟨ob', h2, _⟩⟩
    · exact absurd e hn
    · exact absurd e hn
    · exact ⟨h, by rw [h2]; simp⟩
  have hlv : ∀ n, freezeO m none O n ≠ none → β n ≠ b0 := fun n hn e => by
    obtain ⟨h1, h2⟩ := hfz n hn
    rcases hb0 with h | h
    · exact h1 (hr.inj n m h2 hO (e.trans h))
    · have := hr.live n h2; omega
  have hSb : ¬ S b0 := fun h => by
    rcases hb0 with g | g
    · exact (hr.sep b0 h).2 m hO g.symm
    · have := (hr.sep b0 h).1; omega
  refine ⟨⟨⟨hos, htp, hout, hsz, fun b hb hn => hw b hb fun e => ?_, fun b hb => by
    by_cases e : b = b0
    · subst e; exact hbs hb
    · simp only [bsz, hw b hb e]⟩, fun _ h => h, fun _ h => .inl h, fun i => ?_, fun n hn hlt => ?_⟩, ?_, fun i => ?_⟩
  · rcases hb0 with g | g
    · exact hn ⟨m, hO, (e.trans g).symm⟩
    · omega
  · have : X i ≠ m := by simp only [X]; omega
    simp [this]
  · by_cases h : n = m
    · subst h
      simp only [if_true] at hlt ⊢
      rcases hb0 with g | g
      · exact ⟨n, hO, g⟩
      · omega
    · simp only [if_neg h]
      refine ⟨n, ?_, rfl⟩
      simp only [setO, if_neg h] at hn
      exact (hfz n hn).2
  · exact Rel.put hw hsz hlv hSb hr1 (fun _ h => h) (fun b h => .inl h) hb1 (fun k cs h => freezeO_no m none O k cs h) (by simp [freezeO]) hobj
  · exact ((hs i).freeze (S2 := S) (n := m) (q := none) hr (.inl rfl) (fun _ h => h) (fun h => absurd rfl h)).put hw hlv hSb hr1 (fun _ h => h) (refs_fz m none _)

/-- The cells behind a slice, as 'append' takes them. -/
theorem elems_rel (hr : Rel w S β O) {sv : SV} {x : Value} {sz : Nat} {ys : List PV} (h : SR w S β O sv x) (he : elems O sz sv = some ys) :
    ∃ (b : Option Addr) (c : Nat) (news : List Value), x = .slice b ys.length c ∧ news.length = ys.length * sz ∧ (∀ y ∈ ys, y.cells.length = sz) ∧ (∀ w1 : World, (∀ ad, w1.cell? ad = w.cell? ad) → (Builtin.firstCells sz ys.length x).run P w1 = .ok news.toArray w1) ∧
      ∀ i (hi : i < (flat ys).length), PR w S (flat ys)[i] (news.getD i undef) := by
  have row : ∀ (ad : Addr) (c : Nat) (vals : Nat → Value), (∀ y ∈ ys, y.cells.length = sz) → (∀ i, i < (flat ys).length → w.cell? (ad.add i) = some (vals i)) → x = .slice (some ad) ys.length c → (∀ i (hi : i < (flat ys).length), PR w S (flat ys)[i] (vals i)) →
      ∃ (b : Option Addr) (c : Nat) (news : List Value), x = .slice b ys.length c ∧ news.length = ys.length * sz ∧ (∀ y ∈ ys, y.cells.length = sz) ∧ (∀ w1 : World, (∀ ad, w1.cell? ad = w.cell? ad) → (Builtin.firstCells sz ys.length x).run P w1 = .ok news.toArray w1) ∧
      ∀ i (hi : i < (flat ys).length), PR w S (flat ys)[i] (news.getD i undef) := fun ad c vals hsz hc hx hp => by
    have hl := flat_length hsz
    refine ⟨some ad, c, (List.range (flat ys).length).map vals, hx, by simp [hl], hsz, fun w1 hw => ?_, fun i hi => by simpa [hi] using hp i hi⟩
    rw [hx]
    refine run_firstCells_some (P := P) w1 sz ys.length ad ys.length c _ (by simp [hl]) fun j u hj => ?_
    have hj' : j < (flat ys).length := by
      rcases Nat.lt_or_ge j (flat ys).length with g | g
      · exact g
      · simp [List.getElem?_eq_none, g] at hj
    simp [hj'] at hj
    rw [hw, hc j hj', hj]
  have hadd : ∀ (b off i : Nat), (⟨b, off, none⟩ : Addr).add i = ⟨b, off + i, none⟩ := fun b off i => by simp [Addr.add]
  unfold elems at he
  split at he
  · rename_i s xs
    split at he
    · rename_i hs
      subst hs
      injection he with he; subst he
      have hp := h.p_inv
      cases hp with
      | sl _ _ b off len cap vals hl hcap hS hsz hc hh => subst hl; exact row ⟨b, off, none⟩ cap vals hsz (fun i hi => by rw [hadd]; exact hc i hi) rfl hh
    · cases he
  · injection he with he; subst he
    have hp := h.p_inv
    cases hp
    exact ⟨none, 0, [], rfl, by simp, by simp, fun w1 _ => by simp [Builtin.firstCells], fun i hi => by simp [flat] at hi⟩
  · rename_i n
    split at he
    · rename_i s xs hn
      split at he
      · rename_i hs
        subst hs
        injection he with he; subst he
        cases h with
        | ar _ sz cap xs' ho hl hc =>
          rw [hn] at ho; injection ho with ho; injection ho with h1 h2; subst h1; subst h2
          obtain ⟨c, ty, hh, hsz, hlen, hcell⟩ := hr.obj n _ hn
          exact row ⟨β n, 0, none⟩ cap (fun i => c.getD i undef) hsz (fun i hi => by rw [hadd, Nat.zero_add]; exact cell_of hh i (by omega)) rfl hcell
        | dead v k x hr' hv ho => simp only [SV.refs, List.cons.injEq, and_true] at hv; subst hv; rw [hn] at ho; cases ho
      · cases he
    · cases he
  · rename_i n lo hi'
    split at he
    · rename_i s xs hn
      split at he
      · rename_i hs
        subst hs
        injection he with he; subst he
        cases h with
        | sub _ sz _ _ o cap xs' ho h1 h2 h3 h4 =>
          rw [hn] at ho; injection ho with ho; injection ho with e1 e2; subst e1; subst e2
          obtain ⟨c, ty, hh, hsz, hlen, hcell⟩ := hr.obj n _ hn
          have hfx := flat_length hsz
          have hsz' : ∀ y ∈ (xs.drop lo).take (hi' - lo), y.cells.length = s := fun y hy => hsz y (List.mem_of_mem_drop (List.mem_of_mem_take hy))
          have hl' : ((xs.drop lo).take (hi' - lo)).length = hi' - lo := by simp; omega
          have hfl := flat_length hsz'
          rw [hl'] at hfl
          have hfd : flat ((xs.drop lo).take (hi' - lo)) = ((flat xs).drop (lo * s)).take ((hi' - lo) * s) := by
            rw [flat_take (sz := s) (fun y hy => hsz y (List.mem_of_mem_drop hy)), flat_drop hsz]
          have hbd : ∀ i, i < (hi' - lo) * s → lo * s + i < (flat xs).length ∧ lo < hi' := fun i hi => by
            have hpos : 0 < hi' - lo := by
              rcases Nat.eq_zero_or_pos (hi' - lo) with e | e
              · rw [e] at hi; simp at hi
              · exact e
            have e : lo * s + (hi' - lo) * s = hi' * s := by rw [← Nat.add_mul]; congr 1; omega
            have e2 : hi' * s ≤ xs.length * s := Nat.mul_le_mul_right _ h2
            omega
          refine row ⟨β n, o, none⟩ cap (fun i => c.getD (lo * s + i) undef) hsz' (fun i hi => ?_) (by rw [hl']) fun i hi => ?_
          · rw [hfl] at hi
            obtain ⟨g1, g2⟩ := hbd i hi
            rw [hadd, h4 (by omega)]
            exact cell_of hh _ (by omega)
          · have hi2 : i < (hi' - lo) * s := by rw [hfl] at hi; exact hi
            obtain ⟨g1, g2⟩ := hbd i hi2
            have := hcell (lo * s + i) g1
            have e : (flat ((xs.drop lo).take (hi' - lo)))[i] = (flat xs)[lo * s + i] := by
              simp only [hfd, List.getElem_take, List.getElem_drop]
            rw [e]; exact this
        | dead v k x hr' hv ho => simp only [SV.refs, List.cons.injEq, and_true] at hv; subst hv; rw [hn] at ho; cases ho
      · cases he
    · cases he
  · cases he
end
end Go.Proofs.YtpobnchalcokoaaDoor.Pam
