/- A part of the proof that stands in this folder: a small machine whose steps are shown to be the steps of the model, or walks of functions by it. No condition of its own. -/
import Derived.Test.YtpobnchalcokoaaDoorPamX
import Derived.WideShapes
set_option linter.unusedVariables false
set_option linter.unusedSimpArgs false
namespace Go.Proofs.YtpobnchalcokoaaDoor.Pam
open Go Go.ChangeShapes Go.WideShapes Go.ChangeAt Go.RowKit Go.Joins Go.Deep

section
variable {H : Type} {enc : TypeId × Value → H} {P : Program} {W : World} {sp : Nat → Bool} {b0 : Nat}

theorem addr_at {a : Addr} (h : a.spot = none) (i : Nat) : a.add i = ⟨a.block, a.off + i, none⟩ := by
  obtain ⟨b, o, s⟩ := a
  simp only at h; subst h
  unfold Addr.add
  split
  · rename_i h; subst h; rfl
  · rfl

/-- A slice, its elements opened by 'hel'. -/
theorem open_sl {α : Type} [Inhabited α] {t e : TypeId} {cz : Nat} {φ : α → PV} (hφ : ∀ x, (φ x).cells.length = cz) (ht : P.underlying t = some (.slice e)) (hc : P.cellsOf e = cz)
    (hel : ∀ cs y n, DataW.trod enc P W 0 sp true n e cs = some y → cs.length = cz → ∃ x : α, ∀ i (hi : i < (φ x).cells.length), PR W (All W) (φ x).cells[i] (cs.getD i undef))
    {v : Value} {fuel : Nat} {x : DataW H × List MemPlace} (hval : Cell.okWide P W .any b0 t v) (h : DataW.trod enc P W 0 sp true fuel t [v] = some x) :
    (∃ l : List α, l.length ≤ 9223372036854775807 ∧ PR W (All W) (.sl cz (l.map φ)) v) ∨ (v = .slice none 0 0) := by
  rcases DataW.trod_slice ht h with ⟨h1, _⟩ | ⟨a, len, cap, elems, rest, n, _, h1, _, hb, hl, hm, hlen, he, _⟩
  · right; injection h1
  · left
    injection h1 with h1; subst h1
    have hok : len ≤ cap ∧ (cap : Int) ≤ IntKind.i64.max ∧ W.has P .any b0 a e cap := by
      simp only [Cell.okWide, ht] at hval
      simpa only [Cell.ok, ht] using hval
    obtain ⟨_, hmax, _, hspot, row, cells, hsh, _⟩ := hok
    have hblk : a.block < W.heap.size := by
      unfold World.shape? at hsh
      split at hsh
      · rename_i hh; exact (Array.getElem?_eq_some_iff.1 hh).1
      · cases hsh
    have hone : ∀ i, i < len → ∃ cs : List Value, cs.length = cz ∧ (∀ j, j < cz → W.cell? ⟨a.block, a.off + (i * cz + j), none⟩ = cs[j]?) ∧ ∃ x : α, ∀ j (hj : j < (φ x).cells.length), PR W (All W) (φ x).cells[j] (cs.getD j undef) := fun i hi => by
      have h2 := he i hi
      have hi' : i < elems.length := by omega
      rw [List.getElem?_eq_getElem hi', hc, Option.bind_eq_some_iff] at h2
      obtain ⟨cs, hcs, hy⟩ := h2
      obtain ⟨_, hcl, hcc⟩ := World.cells?_some hcs
      obtain ⟨x, hx⟩ := hel cs _ n hy hcl
      refine ⟨cs, hcl, fun j hj => ?_, x, hx⟩
      have := hcc j hj
      rw [addr_at hspot, addr_at rfl] at this
      simpa [Nat.add_assoc] using this
    let f : Nat → α := fun i => if h : i < len then (hone i h).choose_spec.2.2.choose else default
    refine ⟨(List.range len).map f, ?_, ?_⟩
    · have : (cap : Int) ≤ 9223372036854775807 := hmax
      simp; omega
    · have hsz : ∀ y ∈ ((List.range len).map f).map φ, y.cells.length = cz := fun y hy => by
        obtain ⟨x, _, e⟩ := List.mem_map.1 hy
        rw [← e]; exact hφ x
      have hfl := flat_length hsz
      have hll : (((List.range len).map f).map φ).length = len := by simp
      rw [hll] at hfl
      have key : ∀ k, k < len * cz → ∃ cv, W.cell? ⟨a.block, a.off + k, none⟩ = some cv ∧ ∀ hk : k < (flat (((List.range len).map f).map φ)).length, PR W (All W) (flat (((List.range len).map f).map φ))[k] cv := fun k hk => by
        have hz : 0 < cz := by
          rcases Nat.eq_zero_or_pos cz with h | h
          · simp [h] at hk
          · exact h
        have hi : k / cz < len := Nat.div_lt_of_lt_mul (by rw [Nat.mul_comm]; exact hk)
        have hj : k % cz < cz := Nat.mod_lt _ hz
        have hkk : k / cz * cz + k % cz = k := by rw [Nat.mul_comm]; exact Nat.div_add_mod k cz
        have hs := (hone _ hi).choose_spec
        generalize hcs : (hone _ hi).choose = cs at hs
        have h2 := hs.2.1 (k % cz) hj
        rw [hkk, List.getElem?_eq_getElem (by rw [hs.1]; exact hj)] at h2
        refine ⟨_, h2, fun hk' => ?_⟩
        have hfk : f (k / cz) = (hone _ hi).choose_spec.2.2.choose := by simp only [f, dif_pos hi]
        have h3 := (hone _ hi).choose_spec.2.2.choose_spec
        rw [← hfk] at h3
        have h4 := flat_get hsz (k / cz) (k % cz) (by rw [hll]; exact hi) hj (by rw [hkk]; exact hk')
        have h5 : (flat (((List.range len).map f).map φ))[k] = (flat (((List.range len).map f).map φ))[k / cz * cz + k % cz]'(by rw [hkk]; exact hk') := by
          congr 1; exact hkk.symm
        rw [h5, h4]
        have h6 : (((List.range len).map f).map φ)[k / cz]'(by rw [hll]; exact hi) = φ (f (k / cz)) := by simp
        have h7 := h3 (k % cz) (by rw [hφ]; exact hj)
        rw [hcs] at h7
        rw [getD_lt (by rw [hs.1]; exact hj)] at h7
        simp only [h6]
        exact h7
      obtain ⟨b, o, s⟩ := a
      simp only at hspot; subst hspot
      refine PR.sl cz _ b o len cap (fun k => (W.cell? ⟨b, o + k, none⟩).getD undef) hll.symm hl hblk hsz (fun k hk => ?_) (fun k hk => ?_)
      · obtain ⟨cv, h1, _⟩ := key k (by rw [← hfl]; exact hk)
        rw [h1]; rfl
      · obtain ⟨cv, h1, h2⟩ := key k (by rw [← hfl]; exact hk)
        have := h2 hk
        simp only [h1, Option.getD_some]; exact this

theorem open_ints' {t e : TypeId} (ht : P.underlying t = some (.slice e)) (he : P.underlying e = some (.int .i64)) (hc : P.cellsOf e = 1) {v : Value} {fuel : Nat} {x : DataW H × List MemPlace} (hval : Cell.okWide P W .any b0 t v)
    (h : DataW.trod enc P W 0 sp true fuel t [v] = some x) : ∃ (pv : PV) (l : List Int), slI pv = some l ∧ l.length ≤ 9223372036854775807 ∧ PR W (All W) pv v := by
  rcases open_sl (α := Int) (φ := fun n => .int .i64 n) (fun _ => rfl) ht hc (fun cs y n hy hcl => by
    obtain ⟨c, rfl⟩ : ∃ c, cs = [c] := List.length_eq_one_iff.1 hcl
    obtain ⟨m, h1, _⟩ := DataW.trod_int he hy
    injection h1 with h1; subst h1
    exact ⟨m, fun i hi => by simp [PV.cells] at hi; subst hi; exact .int _ _⟩) hval h with ⟨l, hl, hp⟩ | hv
  · exact ⟨.sl 1 (ints l), l, slI_sl l, hl, hp⟩
  · exact ⟨.nilsl, [], slI_nil, by simp, by rw [hv]; exact .nilsl⟩
theorem open_bools' {t e : TypeId} (ht : P.underlying t = some (.slice e)) (he : P.underlying e = some .bool) (hc : P.cellsOf e = 1) {v : Value} {fuel : Nat} {x : DataW H × List MemPlace} (hval : Cell.okWide P W .any b0 t v)
    (h : DataW.trod enc P W 0 sp true fuel t [v] = some x) : ∃ (pv : PV) (l : List Bool), slB pv = some l ∧ l.length ≤ 9223372036854775807 ∧ PR W (All W) pv v := by
  rcases open_sl (α := Bool) (φ := fun n => .bool n) (fun _ => rfl) ht hc (fun cs y n hy hcl => by
    obtain ⟨c, rfl⟩ : ∃ c, cs = [c] := List.length_eq_one_iff.1 hcl
    obtain ⟨m, h1, _⟩ := DataW.trod_bool he hy
    injection h1 with h1; subst h1
    exact ⟨m, fun i hi => by simp [PV.cells] at hi; subst hi; exact .bool _⟩) hval h with ⟨l, hl, hp⟩ | hv
  · exact ⟨.sl 1 (bools l), l, slB_sl l, hl, hp⟩
  · exact ⟨.nilsl, [], slB_nil, by simp, by rw [hv]; exact .nilsl⟩
theorem open_asks' {t e : TypeId} {f0 f1 : Field} (ht : P.underlying t = some (.slice e)) (he : P.underlying e = some (.struct #[f0, f1])) (h0 : P.underlying f0.type = some (.int .i64)) (h1 : P.underlying f1.type = some .bool)
    (ho : f0.offset = 0 ∧ f1.offset = 1 ∧ P.cellsOf f0.type = 1 ∧ P.cellsOf f1.type = 1) (hc : P.cellsOf e = 2) {v : Value} {fuel : Nat} {x : DataW H × List MemPlace} (hval : Cell.okWide P W .any b0 t v)
    (h : DataW.trod enc P W 0 sp true fuel t [v] = some x) : ∃ (pv : PV) (l : List (Int × Bool)), slA pv = some l ∧ l.length ≤ 9223372036854775807 ∧ PR W (All W) pv v := by
  obtain ⟨o0, o1, c0, c1⟩ := ho
  rcases open_sl (α := Int × Bool) (φ := fun a => .agg [.int .i64 a.1, .bool a.2]) (fun _ => rfl) ht hc (fun cs y n hy hcl => by
    match cs, hcl with
    | [x0, x1], _ =>
      obtain ⟨y0, y1, m, _, _, hy0, hy1⟩ := trod_struct2 he hy
      rw [o0, c0] at hy0
      rw [o1, c1] at hy1
      simp only [List.drop_zero, List.take_succ_cons, List.take_zero, List.drop_succ_cons] at hy0 hy1
      obtain ⟨a, e0, _⟩ := DataW.trod_int h0 hy0
      obtain ⟨b, e1, _⟩ := DataW.trod_bool h1 hy1
      injection e0 with e0; injection e1 with e1; subst e0; subst e1
      refine ⟨(a, b), fun i hi => ?_⟩
      match i, hi with
      | 0, _ => exact .int _ _
      | 1, _ => exact .bool _) hval h with ⟨l, hl, hp⟩ | hv
  · exact ⟨.sl 2 (asks l), l, slA_sl l, hl, hp⟩
  · exact ⟨.nilsl, [], slA_nil, by simp, by rw [hv]; exact .nilsl⟩

/-- The cells of a struct that is handed in. -/
theorem cell_okWide {t : TypeId} {fs : Array Field} {ts : List TypeId} {cs : Array Value} (hs : P.underlying t = some (.struct fs)) (hct : P.cellTypes P.depth t = some ts) (hv : Value.okWide P W .any b0 t (.agg cs)) {i : Nat} {c : Value} {u : TypeId} (hi : cs[i]? = some c) (hu : ts[i % ts.length]? = some u) : Cell.okWide P W .any b0 u c := by
  simp only [Value.okWide, hs] at hv
  obtain ⟨cs', e, _, ts', h1, _, h2⟩ := hv
  injection e with e; subst e
  rw [hct] at h1; injection h1 with h1; subst h1
  obtain ⟨u', h3, h4⟩ := h2 i c hi
  rw [hu] at h3; injection h3 with h3; subst h3
  exact h4
theorem open_state' {t u : TypeId} {f0 f1 : Field} (hs : P.underlying t = some (.struct #[f0, f1])) (hone : oneCellFields P #[f0, f1] = true) (hC : P.cellsOf t = 2) (hct : P.cellTypes P.depth t = some [f0.type, f1.type])
    (h0 : P.underlying f0.type = some (.slice u)) (hu : P.underlying u = some (.int .i64)) (hcu : P.cellsOf u = 1) (h1 : P.underlying f1.type = some (.int .i64)) {v : Value} {d : DataW H} {p : List MemPlace} (hv : Value.okWide P W .any b0 t v) (h : DataW.Trod enc P W 0 sp true t v d p) :
    ∃ (pv : PV) (l : List Int) (m : Int), slI pv = some l ∧ l.length ≤ 9223372036854775807 ∧ PR W (All W) (.agg [pv, .int .i64 m]) v := by
  obtain ⟨v0, v1, y0, y1, n, rfl, _, _, hy0, hy1⟩ := open_agg2 hs hone hC hv h
  have c0 := cell_okWide hs hct hv (i := 0) (c := v0) (u := f0.type) rfl rfl
  obtain ⟨pv, l, g1, g2, g3⟩ := open_ints' h0 hu hcu c0 hy0
  obtain ⟨m, e, _⟩ := DataW.trod_int h1 hy1
  injection e with e; subst e
  refine ⟨pv, l, m, g1, g2, .agg _ _ rfl fun i hi => ?_⟩
  match i, hi with
  | 0, _ => exact g3
  | 1, _ => exact .int _ _
theorem open_asked' {t : TypeId} {f0 f1 : Field} (hs : P.underlying t = some (.struct #[f0, f1])) (hone : oneCellFields P #[f0, f1] = true) (hC : P.cellsOf t = 2) (h0 : P.underlying f0.type = some (.int .i64)) (h1 : P.underlying f1.type = some .bool)
    {v : Value} {d : DataW H} {p : List MemPlace} (hv : Value.okWide P W .any b0 t v) (h : DataW.Trod enc P W 0 sp true t v d p) : ∃ (q : Int) (y : Bool), PR W (All W) (.agg [.int .i64 q, .bool y]) v := by
  obtain ⟨v0, v1, y0, y1, n, rfl, _, _, hy0, hy1⟩ := open_agg2 hs hone hC hv h
  obtain ⟨q, e0, _⟩ := DataW.trod_int h0 hy0
  obtain ⟨y, e1, _⟩ := DataW.trod_bool h1 hy1
  injection e0 with e0; injection e1 with e1; subst e0; subst e1
  refine ⟨q, y, .agg _ _ rfl fun i hi => ?_⟩
  match i, hi with
  | 0, _ => exact .int _ _
  | 1, _ => exact .bool _
theorem open_two' {t : TypeId} {f0 f1 : Field} (hs : P.underlying t = some (.struct #[f0, f1])) (hone : oneCellFields P #[f0, f1] = true) (hC : P.cellsOf t = 2) (h0 : P.underlying f0.type = some (.int .i64)) (h1 : P.underlying f1.type = some (.int .i64))
    {v : Value} {d : DataW H} {p : List MemPlace} (hv : Value.okWide P W .any b0 t v) (h : DataW.Trod enc P W 0 sp true t v d p) : ∃ a b : Int, (IntKind.i64.has a ∧ IntKind.i64.has b) ∧ PR W (All W) (.agg [.int .i64 a, .int .i64 b]) v := by
  obtain ⟨v0, v1, y0, y1, n, rfl, _, _, hy0, hy1⟩ := open_agg2 hs hone hC hv h
  obtain ⟨q, e0, _, w0⟩ := DataW.trod_int h0 hy0
  obtain ⟨y, e1, _, w1⟩ := DataW.trod_int h1 hy1
  injection e0 with e0; injection e1 with e1; subst e0; subst e1
  refine ⟨q, y, ?_, .agg _ _ rfl fun i hi => ?_⟩
  · simp only [Lit.wf, Bool.and_eq_true, decide_eq_true_eq] at w0 w1
    exact ⟨⟨w0.1, w0.2⟩, ⟨w1.1, w1.2⟩⟩
  · match i, hi with
    | 0, _ => exact .int _ _
    | 1, _ => exact .int _ _
theorem cell_slice {t e : TypeId} (ht : P.underlying t = some (.slice e)) {v : Value} (hv : Value.okWide P W .any b0 t v) : Cell.okWide P W .any b0 t v := by
  simpa only [Value.okWide, ht] using hv
theorem trod_slice_cells {t e : TypeId} (ht : P.underlying t = some (.slice e)) {v : Value} {d : DataW H} {p : List MemPlace} (hv : Value.okWide P W .any b0 t v) (h : DataW.Trod enc P W 0 sp true t v d p) : ∃ fuel, DataW.trod enc P W 0 sp true fuel t [v] = some (d, p) := by
  obtain ⟨fuel, hf⟩ := h
  obtain ⟨a, l, c, rfl⟩ := okWide_slice ht hv
  exact ⟨fuel, by simpa [Value.cells] using hf⟩
theorem open_intsV {t e : TypeId} (ht : P.underlying t = some (.slice e)) (he : P.underlying e = some (.int .i64)) (hc : P.cellsOf e = 1) {v : Value} {d : DataW H} {p : List MemPlace} (hv : Value.okWide P W .any b0 t v)
    (h : DataW.Trod enc P W 0 sp true t v d p) : ∃ (pv : PV) (l : List Int), slI pv = some l ∧ l.length ≤ 9223372036854775807 ∧ PR W (All W) pv v := by
  obtain ⟨fuel, hf⟩ := trod_slice_cells ht hv h
  exact open_ints' ht he hc (cell_slice ht hv) hf
theorem open_boolsV {t e : TypeId} (ht : P.underlying t = some (.slice e)) (he : P.underlying e = some .bool) (hc : P.cellsOf e = 1) {v : Value} {d : DataW H} {p : List MemPlace} (hv : Value.okWide P W .any b0 t v)
    (h : DataW.Trod enc P W 0 sp true t v d p) : ∃ (pv : PV) (l : List Bool), slB pv = some l ∧ l.length ≤ 9223372036854775807 ∧ PR W (All W) pv v := by
  obtain ⟨fuel, hf⟩ := trod_slice_cells ht hv h
  exact open_bools' ht he hc (cell_slice ht hv) hf
theorem open_asksV {t e : TypeId} {f0 f1 : Field} (ht : P.underlying t = some (.slice e)) (he : P.underlying e = some (.struct #[f0, f1])) (h0 : P.underlying f0.type = some (.int .i64)) (h1 : P.underlying f1.type = some .bool)
    (ho : f0.offset = 0 ∧ f1.offset = 1 ∧ P.cellsOf f0.type = 1 ∧ P.cellsOf f1.type = 1) (hc : P.cellsOf e = 2) {v : Value} {d : DataW H} {p : List MemPlace} (hv : Value.okWide P W .any b0 t v)
    (h : DataW.Trod enc P W 0 sp true t v d p) : ∃ (pv : PV) (l : List (Int × Bool)), slA pv = some l ∧ l.length ≤ 9223372036854775807 ∧ PR W (All W) pv v := by
  obtain ⟨fuel, hf⟩ := trod_slice_cells ht hv h
  exact open_asks' ht he h0 h1 ho hc (cell_slice ht hv) hf
theorem open_int' {t : TypeId} (ht : P.underlying t = some (.int .i64)) {v : Value} (hv : Value.okWide P W .any b0 t v) : ∃ n : Int, IntKind.i64.has n ∧ PR W (All W) (.int .i64 n) v := by
  obtain ⟨n, rfl, h1, h2⟩ := open_intP ht hv
  exact ⟨n, ⟨h1, h2⟩, .int _ _⟩
end
end Go.Proofs.YtpobnchalcokoaaDoor.Pam
