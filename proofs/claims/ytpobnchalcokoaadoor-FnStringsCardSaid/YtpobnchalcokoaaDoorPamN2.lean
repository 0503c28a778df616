/- A part of the proof that stands in this folder: a small machine whose steps are shown to be the steps of the model, or walks of functions by it. No condition of its own. -/
import Derived.Test.YtpobnchalcokoaaDoorPamN1
set_option linter.unusedVariables false
set_option linter.unusedSimpArgs false
namespace Go.Proofs.YtpobnchalcokoaaDoor.Pam
open Go

section
variable {P : Program} {w w' w1 : World} {S S' S2 : Nat → Prop} {β β' : Nat → Nat} {O O' : Objs} {σ σ' : Env} {a : Act} {o : Oper} {v : SV} {ann : Nat → Option Ann} {Γ : Gam} {tmps : Array Value} {K : Act → World → Prop} {Q : Exit → Act → World → Prop}
variable {t u e e' : TypeId} {i : TypeInfo} {ats : Array TypeId} {ty : TypeId} {x : Value} {b : Option Addr} {m c : Nat} {news olds : List Value}

theorem run_app_room (h0 : ats[0]? = some t) (h1 : ats[1]? = some u) (ht : P.underlying t = some (.slice e)) (hu : P.underlying u = some (.slice e')) (hi : P.info? e = some i) (hx : x = .slice b m c) (hf : (Builtin.firstCells i.size m x).run P w = .ok news.toArray w)
    {g sLen sCap : Nat} {cur : Array Value} {tb : TypeId} (hg : w.heap[g]? = some (.cells cur tb (0, 0))) (hone : ∀ u ∈ news, u.oneCell' = true) (hroom : sLen + m ≤ sCap) (hfit : sLen * i.size + news.length ≤ cur.size) :
    (Builtin.append_ ats ty #[.slice (some ⟨g, 0, none⟩) sLen sCap, x]).run P w = .ok (.slice (some ⟨g, 0, none⟩) (sLen + m) sCap) (w.setRow g (cur.toList.take (sLen * i.size) ++ news ++ cur.toList.drop (sLen * i.size + news.length)).toArray) := by
  have hst := run_storeCells_at P g (sLen * i.size) tb news 0 cur w hg (by simpa using hfit) hone
  simp only [Nat.add_zero] at hst
  subst hx
  simp [Builtin.append_, h0, h1, run_underlying ht, run_underlying hu, sizeOf, typeInfo, hi, Builtin.lenOf, hroom, hf, Addr.add_lit, hst]

theorem run_app_grow (h0 : ats[0]? = some t) (h1 : ats[1]? = some u) (ht : P.underlying t = some (.slice e)) (hu : P.underlying u = some (.slice e')) (hi : P.info? e = some i) {z : Value} (hz : i.zero = some z) (hx : x = .slice b m c)
    (hf : (Builtin.firstCells i.size m x).run P w.drew = .ok news.toArray w.drew) {base : Option Addr} {sLen sCap : Nat} (hfo : (Builtin.firstCells i.size sLen (.slice base sLen sCap)).run P w.drew = .ok olds.toArray w.drew)
    (hg : sCap < sLen + m) (h63 : ((sLen + m : Nat) : Int) ≤ 9223372036854775807) (hfit : Builtin.nextslicecap (sLen + m) sCap * i.bytes ≤ 281474976710656) :
    (Builtin.append_ ats ty #[.slice base sLen sCap, x]).run P w = .ok (.slice (some ⟨w.heap.size, 0, none⟩) (sLen + m) (grownCap w (sLen + m) sCap e))
      (w.drew.alloc (.cells (olds.toArray ++ news.toArray ++ Builtin.zeroCells z.cells (grownCap w (sLen + m) sCap e - (sLen + m))) e)) := by
  have hn : ¬ (sLen + m ≤ sCap) := by omega
  have h63' : ¬ (9223372036854775807 < ((sLen : Int) + (m : Int))) := by omega
  have h48' : ¬ (281474976710656 < Builtin.nextslicecap (sLen + m) sCap * i.bytes) := by omega
  subst hx
  simp [Builtin.append_, h0, h1, run_underlying ht, run_underlying hu, sizeOf, typeInfo, zeroValue, hi, hz, Builtin.lenOf, hn, h63', h48', Question.forced, hf, hfo, newRow, grownCap]
  congr 2
  apply Array.ext'
  simp [List.append_assoc]

theorem drew_cell (ad : Addr) : w.drew.cell? ad = w.cell? ad := by simp

theorem append_cells {xs ys : List PV} {A B C : Array Value} (hA : A.size = (flat xs).length) (hB : B.size = (flat ys).length) (hx : ∀ i (hi : i < (flat xs).length), PR w S (flat xs)[i] (A.getD i undef)) (hy : ∀ i (hi : i < (flat ys).length), PR w S (flat ys)[i] (B.getD i undef)) :
    (flat (xs ++ ys)).length ≤ (A ++ B ++ C).size ∧ ∀ i (hi : i < (flat (xs ++ ys)).length), PR w S (flat (xs ++ ys))[i] ((A ++ B ++ C).getD i undef) := by
  have hf := flat_append xs ys
  refine ⟨by rw [hf]; simp; omega, fun i hi => ?_⟩
  have hi' : i < (flat xs).length + (flat ys).length := by rw [hf] at hi; simpa using hi
  by_cases h : i < (flat xs).length
  · have e1 : (flat (xs ++ ys))[i] = (flat xs)[i] := by simp only [hf]; exact List.getElem_append_left h
    have e2 : (A ++ B ++ C).getD i undef = A.getD i undef := by
      simp [Array.getElem?_append, show i < A.size + B.size by omega, show i < A.size by omega]
    rw [e1, e2]; exact hx i h
  · have e1 : (flat (xs ++ ys))[i] = (flat ys)[i - (flat xs).length]'(by omega) := by simp only [hf]; exact List.getElem_append_right (by omega)
    have e2 : (A ++ B ++ C).getD i undef = B.getD (i - (flat xs).length) undef := by
      simp [Array.getElem?_append, h, hA, show i - (flat xs).length < B.size by omega]
    rw [e1, e2]; exact hy _ _

theorem sim_append {cl : Call} {X Y : Operand} {x' y' : Od} (hr : Rel w S β O) (hs : Slots w S β O σ a.tmps) (ho : o.op = .call cl) (hc : cl.callee = .builtin .append) (hargs : cl.args.toList = [X, Y]) (h0 : cl.argTypes[0]? = some t) (ht : P.underlying t = some (.slice e))
    (h1 : cl.argTypes[1]? = some u) (hu : P.underlying u = some (.slice e')) (hi : P.info? e = some i) (hb1 : i.bytes ≤ 4096) (hpos : 0 < i.size) (hz0 : i.zero.map (·.cells.size) = some i.size) (hX : odOf X = some x') (hY : odOf Y = some y') (hdb : ∀ d, o.dst = some d → d < 1000000)
    (hd : stepW Γ o.dst σ O (.append i.size x' y') = some (v, σ', O')) (hK : WK w S β O O' σ' a o v K) : o.wp P a w K Q := by
  have rx := od_rel hs hX
  have ry := od_rel hs hY
  obtain ⟨z, hz, hzs⟩ : ∃ z, i.zero = some z ∧ z.cells.size = i.size := by
    cases hz : i.zero with
    | none => simp [hz] at hz0
    | some z => exact ⟨z, rfl, by simpa [hz] using hz0⟩
  have exec : ∀ (val : Value) (w1 : World), (Builtin.append_ cl.argTypes o.type #[a.eval X, a.eval Y]).run P w = .ok val w1 → (execOp a.eval o).run P w = .ok (.value val) w1 := fun val w1 h => by
    simp [execOp, ho, resolve, hc, call_args2 hargs, invoke, builtin, h]
  simp only [stepW] at hd
  cases hys : elems O i.size (ev σ y') with
  | none => simp [hys] at hd
  | some ys =>
    simp only [hys] at hd
    obtain ⟨b, c, news, hy, hnl, hysz, hfn, hnp⟩ := elems_rel (P := P) hr ry hys
    have hfy := flat_length hysz
    have hf0 := hfn w fun _ => rfl
    have hf1 := hfn w.drew drew_cell
    split at hd
    · -- an array of one's own
      rename_i m hev
      rw [hev] at rx
      split at hd
      · rename_i s xs hm
        split at hd
        · rename_i hcond
          obtain ⟨rfl, hm6, hroomA, hcell⟩ := hcond
          injection hd with hd
          have hv : v = .ar m := by have := congrArg (·.1) hd; simpa using this.symm
          have e1 : σ' = freezeE m none σ := by have := congrArg (·.2.1) hd; simpa using this.symm
          have e2 : O' = setO m (some (.arr i.size (xs ++ ys))) (freezeO m none O) := by have := congrArg (·.2.2) hd; simpa using this.symm
          subst hv; subst e1; subst e2
          have hne : O m ≠ none := by rw [hm]; simp
          obtain ⟨cur, tb, hh, hsz, hlen, hcl⟩ := hr.obj m _ hm
          have hfx := flat_length hsz
          have hsz2 : ∀ q ∈ xs ++ ys, q.cells.length = i.size := fun q hq => by
            rcases List.mem_append.1 hq with h | h
            · exact hsz q h
            · exact hysz q h
          have hfxy := flat_append xs ys
          obtain ⟨b2, c2, olds, hx2, hol, _, hfo, hop⟩ := elems_rel (P := P) (ys := xs) (sz := i.size) hr rx (by simp [elems, hm])
          have hfo1 := hfo w.drew drew_cell
          generalize hax : a.eval X = ax at rx hx2 hfo1
          cases rx with
          | dead _ k _ hr' hv ho' => simp only [SV.refs, List.cons.injEq, and_true] at hv; subst hv; exact absurd ho' hne
          | ar _ sz' cap xs' ho' hl hcap =>
            rw [hm] at ho'; injection ho' with ho'; injection ho' with g1 g2; subst g1; subst g2
            have hbsz : bsz w (β m) = cur.size := bsz_cells hh
            by_cases hroom : xs.length + ys.length ≤ cap
            · -- in place
              have hone : ∀ q ∈ news, q.oneCell' = true := fun q hq => by
                obtain ⟨k, hk, hkq⟩ := List.mem_iff_getElem.1 hq
                have hk' : k < (flat ys).length := by omega
                have hp := hnp k hk'
                have hq' : news.getD k undef = q := by simp [hk, hkq]
                rw [hq'] at hp
                refine isCell_one hp ?_
                simp only [List.all_eq_true] at hcell
                obtain ⟨y0, hy0, hmem⟩ := List.mem_flatMap.1 (List.getElem_mem hk')
                exact hcell y0 hy0 _ hmem
              have hfit : xs.length * i.size + news.length ≤ cur.size := by
                have : (xs.length + ys.length) * i.size ≤ cap * i.size := Nat.mul_le_mul_right _ hroom
                rw [Nat.add_mul] at this
                omega
              have hrun := run_app_room (ty := o.type) h0 h1 ht hu hi hy hf0 hh hone hroom hfit
              have hcurl : xs.length * i.size ≤ cur.toList.length := by simp; omega
              have hnew : cur.toList.take (xs.length * i.size) ++ news ++ cur.toList.drop (xs.length * i.size + news.length) = (cur.toList.take (xs.length * i.size)) ++ news ++ (cur.toList.drop (xs.length * i.size + news.length)) := rfl
              obtain ⟨k1, k2⟩ := append_cells (w := w) (S := S) (xs := xs) (ys := ys) (A := (cur.toList.take (xs.length * i.size)).toArray) (B := news.toArray) (C := (cur.toList.drop (xs.length * i.size + news.length)).toArray)
                (by simp; omega) (by simp; omega) (fun j hj => by
                  have := hcl j hj
                  have e : (cur.toList.take (xs.length * i.size)).toArray.getD j undef = cur.getD j undef := by
                    simp [List.getElem?_take, show j < xs.length * i.size by omega]
                  rw [e]; exact this) (fun j hj => by have := hnp j hj; simpa using this)
              have earr : ((cur.toList.take (xs.length * i.size)).toArray ++ news.toArray ++ (cur.toList.drop (xs.length * i.size + news.length)).toArray) = (cur.toList.take (xs.length * i.size) ++ news ++ cur.toList.drop (xs.length * i.size + news.length)).toArray := by simp
              rw [earr] at k1 k2
              have hheap := setRow_heap w (β m) cur (cur.toList.take (xs.length * i.size) ++ news ++ cur.toList.drop (xs.length * i.size + news.length)).toArray tb (0, 0) hh
              have hoth : ∀ q, q ≠ β m → (w.setRow (β m) (cur.toList.take (xs.length * i.size) ++ news ++ cur.toList.drop (xs.length * i.size + news.length)).toArray).heap[q]? = w.heap[q]? := fun q hq => setRow_other w (β m) q _ hq
              have hpm : ∀ (u : PV) q, PR w S u q → PR (w.setRow (β m) (cur.toList.take (xs.length * i.size) ++ news ++ cur.toList.drop (xs.length * i.size + news.length)).toArray) S u q := fun u q h => h.mono fun b hb => ⟨hb, hoth b fun e => (hr.sep b hb).2 m hne e.symm⟩
              have hbm : (fun n => if n = m then β m else β n) m = β m := by simp
              obtain ⟨p1, p2, p3⟩ := place_rel (w1 := w.setRow (β m) (cur.toList.take (xs.length * i.size) ++ news ++ cur.toList.drop (xs.length * i.size + news.length)).toArray) (b0 := β m) (ob := .arr i.size (xs ++ ys)) hr hs hm6 hne (fun q _ hq => hoth q hq) (by simp) (by simpa using hr.live m hne) (.inl rfl) rfl rfl rfl (fun _ => by rw [bsz_cells hheap, bsz_cells hh]; simp; omega)
                ⟨_, tb, by simpa using hheap, hsz2, k1, fun j hj => hpm _ _ (k2 j hj)⟩
              unfold Oper.wp
              rw [exec _ _ (by rw [hax]; exact hrun), Oper.upon_value]
              refine hK _ _ _ _ p1 p2 p3 ?_
              have hsr := SR.ar (w := w.setRow (β m) (cur.toList.take (xs.length * i.size) ++ news ++ cur.toList.drop (xs.length * i.size + news.length)).toArray) (S := S) (β := fun n => if n = m then β m else β n) (O := setO m (some (.arr i.size (xs ++ ys))) (freezeO m none O)) m i.size cap (xs ++ ys) (by simp [setO]) (by simpa using hroom) (by
                simp only [if_true]
                rw [bsz_cells hheap]
                simp
                omega)
              simpa using hsr
            · -- another place
              have hroomB : xs.length + ys.length ≤ 4294967296 := hroomA
              have hbig : (xs.length + ys.length) * i.bytes ≤ 140737488355328 := by
                have := Nat.mul_le_mul hroomB hb1
                omega
              have hrun := run_app_grow (w := w) (ty := o.type) h0 h1 ht hu hi hz hy hf1 (base := some ⟨β m, 0, none⟩) (sLen := xs.length) (sCap := cap) hfo1 (by omega) (by omega) (growslice_fits (by omega) hbig)
              have hge := grownCap_ge w (xs.length + ys.length) cap e
              generalize grownCap w (xs.length + ys.length) cap e = cap' at hrun hge
              obtain ⟨k1, k2⟩ := append_cells (w := w) (S := S) (xs := xs) (ys := ys) (A := olds.toArray) (B := news.toArray) (C := Builtin.zeroCells z.cells (cap' - (xs.length + ys.length)))
                (by simp; omega) (by simp; omega) (fun j hj => by have := hop j hj; simpa using this) (fun j hj => by have := hnp j hj; simpa using this)
              have hcs : (olds.toArray ++ news.toArray ++ Builtin.zeroCells z.cells (cap' - (xs.length + ys.length))).size = cap' * i.size := by
                simp only [Array.size_append, List.size_toArray, size_zeroCells, hzs, hol, hnl]
                rw [← Nat.add_mul, ← Nat.add_mul]
                congr 1; omega
              generalize olds.toArray ++ news.toArray ++ Builtin.zeroCells z.cells (cap' - (xs.length + ys.length)) = C at hrun k1 k2 hcs
              have hnewb := heap_alloc_new w.drew (.cells C e)
              have hsd : w.drew.heap.size = w.heap.size := rfl
              rw [hsd] at hnewb
              have hold : ∀ q, q < w.heap.size → (w.drew.alloc (.cells C e)).heap[q]? = w.heap[q]? := fun q hq => (Fr.drew_alloc w (.cells C e)).block q hq id
              have hpm : ∀ (u : PV) q, PR w S u q → PR (w.drew.alloc (.cells C e)) S u q := fun u q h => h.mono fun b hb => ⟨hb, hold b (hr.sep b hb).1⟩
              obtain ⟨p1, p2, p3⟩ := place_rel (w1 := w.drew.alloc (.cells C e)) (b0 := w.heap.size) (ob := .arr i.size (xs ++ ys)) hr hs hm6 hne (fun q hq _ => hold q hq) (by simp) (by simp) (.inr (Nat.le_refl _)) rfl rfl rfl (fun h => absurd h (Nat.lt_irrefl _))
                ⟨C, e, by simpa using hnewb, hsz2, k1, fun j hj => hpm _ _ (k2 j hj)⟩
              unfold Oper.wp
              rw [exec _ _ (by rw [hax]; exact hrun), Oper.upon_value]
              refine hK _ _ _ _ p1 p2 p3 ?_
              have hsr := SR.ar (w := w.drew.alloc (.cells C e)) (S := S) (β := fun n => if n = m then w.heap.size else β n) (O := setO m (some (.arr i.size (xs ++ ys))) (freezeO m none O)) m i.size cap' (xs ++ ys) (by simp [setO]) (by simpa using hge) (by
                simp only [if_true]
                rw [bsz_cells hnewb]
                omega)
              simpa using hsr
        · cases hd
      · cases hd
    · -- a part from its begin
      rename_i m k hev
      rw [hev] at rx
      split at hd
      · rename_i s xs hm
        split at hd
        · rename_i hcond
          obtain ⟨rfl, hs1, hx0, hfit, hcl⟩ := hcond
          injection hd with hd; injection hd with e1 e2; injection e2 with e2 e3; subst e1; subst e2; subst e3
          obtain ⟨sz', xs', o', cap, hm', hax, _, hkx, h3, h4⟩ := rx.sub_inv2 (by rw [hm]; simp)
          rw [hm] at hm'; cases hm'
          have ho' := h4 hx0; rw [Nat.zero_mul] at ho'; subst ho'
          obtain ⟨cc, ty, hh, hszs, hlen2, hcell⟩ := hr.obj m _ hm
          have hfx := flat_length hszs
          obtain ⟨f1, f2⟩ := flat_cells hcl
          rw [hs1] at hf0 hfy hysz hnl
          have hone : ∀ q ∈ news, q.oneCell' = true := fun q hq => by
            obtain ⟨j, hj, hjq⟩ := List.getElem_of_mem hq
            have hj' : j < (flat ys).length := by omega
            have := hnp j hj'
            have e : news.getD j undef = q := by rw [← hjq]; simp [List.getElem?_eq_getElem hj]
            rw [e] at this
            have hk2 : j < ys.length := by rw [← f1]; exact hj'
            have e4 : (flat ys)[j] = ys[j] := by congr 1
            rw [e4] at this
            exact isCell_one this (List.all_eq_true.1 hcl _ (List.getElem_mem hk2))
          simp only [Nat.sub_zero] at hax
          have hrun := run_app_room (ty := o.type) h0 h1 ht hu hi hy (by rw [hs1]; exact hf0) hh hone (sLen := k) (sCap := cap) (by omega) (by rw [hs1]; omega)
          rw [hs1] at hrun
          have hrun2 : (execOp a.eval o).run P w = .ok (.value (.slice (some ⟨β m, 0, none⟩) (k + ys.length) cap)) (w.setRow (β m) (cc.toList.take (k * 1) ++ news ++ cc.toList.drop (k * 1 + news.length)).toArray) := exec _ _ (by rw [hax]; exact hrun)
          refine write_elems (vs := ys) (off := k) (l := news) hr hs hm hh (by omega) f2 (by omega) hnp hrun2 (.inr ⟨rfl, fun w1 => ?_⟩) hK
          have hpl : (putPV xs k ys).length = xs.length := by rw [putPV_eq _ _ _ hfit, seg_length _ _ _ hfit]
          have hsr := SR.sub (w := w1) (S := S) (β := β) (O := setO m (some (.arr 1 (putPV xs k ys))) O) m 1 0 (k + ys.length) 0 cap (putPV xs k ys) (by simp [setO]) (Nat.zero_le _) (by omega) (by omega) (fun _ => by simp)
          simpa using hsr
        · cases hd
      · cases hd
    · -- nothing yet
      rename_i hev
      rw [hev] at rx
      have hp := rx.p_inv
      generalize hax : a.eval X = ax at hp
      cases hp
      split at hd
      · injection hd with hd
        have hv : v = .p .nilsl := by have := congrArg (·.1) hd; simpa using this.symm
        have e1 : σ' = σ := by have := congrArg (·.2.1) hd; simpa using this.symm
        have e2 : O' = O := by have := congrArg (·.2.2) hd; simpa using this.symm
        subst hv; subst e1; subst e2
        have hrun : (Builtin.append_ cl.argTypes o.type #[.slice none 0 0, a.eval Y]).run P w = .ok (.slice none 0 0) w := by
          rw [hy] at hf0 ⊢
          simp at hf0
          simp [Builtin.append_, h0, h1, run_underlying ht, run_underlying hu, sizeOf, typeInfo, hi, Builtin.lenOf, hf0]
        unfold Oper.wp
        rw [exec _ _ (by rw [hax]; exact hrun), Oper.upon_value]
        exact hK _ _ _ _ (Step.refl _ _ _ _) hr hs (.p _ _ .nilsl)
      · rename_i _ y0 yr
        split at hd
        · rename_i hroomA
          cases hdst : o.dst with
          | none => simp [hdst] at hd
          | some d =>
            simp only [hdst, Option.map_some, Option.some.injEq] at hd
            have hv : v = .ar d := by have := congrArg (·.1) hd; simpa [newA] using this.symm
            have e1 : σ' = (newA d (.arr i.size (y0 :: yr)) .un σ O).2.1 := by have := congrArg (·.2.1) hd; simpa [newA] using this.symm
            have e2 : O' = (newA d (.arr i.size (y0 :: yr)) .un σ O).2.2 := by have := congrArg (·.2.2) hd; simpa [newA] using this.symm
            subst hv; subst e1; subst e2
            generalize hyl : (y0 :: yr) = ys at *
            have hroomB : ys.length ≤ 4294967296 := hroomA
            have hpos' : 0 < ys.length := by rw [← hyl]; simp
            have hbig : (0 + ys.length) * i.bytes ≤ 140737488355328 := by
              have := Nat.mul_le_mul hroomB hb1
              rw [Nat.zero_add]
              omega
            have hrun := run_app_grow (w := w) (ty := o.type) (olds := []) h0 h1 ht hu hi hz hy hf1 (base := none) (sLen := 0) (sCap := 0) (by simp [Builtin.firstCells]) (by omega) (by omega) (growslice_fits (by omega) hbig)
            simp only [Nat.zero_add] at hrun
            have hge := grownCap_ge w ys.length 0 e
            generalize grownCap w ys.length 0 e = cap' at hrun hge
            obtain ⟨k1, k2⟩ := append_cells (w := w) (S := S) (xs := []) (ys := ys) (A := (#[] : Array Value)) (B := news.toArray) (C := Builtin.zeroCells z.cells (cap' - ys.length))
              (by simp [flat]) (by simp; omega) (fun j hj => by simp [flat] at hj) (fun j hj => by have := hnp j hj; simpa using this)
            simp only [List.nil_append] at k1 k2
            have hcs : ((#[] : Array Value) ++ news.toArray ++ Builtin.zeroCells z.cells (cap' - ys.length)).size = cap' * i.size := by
              simp only [Array.size_append, List.size_toArray, size_zeroCells, hzs, hnl]
              simp
              rw [← Nat.add_mul]
              congr 1; omega
            generalize (#[] : Array Value) ++ news.toArray ++ Builtin.zeroCells z.cells (cap' - ys.length) = C at hrun k1 k2 hcs
            have hnewb := heap_alloc_new w.drew (.cells C e)
            have hsd : w.drew.heap.size = w.heap.size := rfl
            rw [hsd] at hnewb
            refine made_wp (ob := .arr i.size ys) hr hs (hdb d hdst) (Fr.drew_alloc w (.cells C e)) (Nat.le_refl _) (by simp) ⟨C, e, hnewb, hysz, k1, k2⟩ (exec _ _ (by rw [hax]; exact hrun)) (fun S' β' hb => ?_) hK
            have hsr := SR.ar (w := w.drew.alloc (.cells C e)) (S := S') (β := β') (O := (newA d (.arr i.size ys) .un σ O).2.2) d i.size cap' ys (by simp [newA, setO, Ob.tr]) hge (by rw [hb, bsz_cells hnewb]; omega)
            rw [hb] at hsr
            exact hsr
        · cases hd
    · cases hd
end
end Go.Proofs.YtpobnchalcokoaaDoor.Pam
