/- A part of the proof that stands in this folder: a small machine whose steps are shown to be the steps of the model, or walks of functions by it. No condition of its own. -/
import Derived.Test.YtpobnchalcokoaaDoorPamW
set_option linter.unusedVariables false
set_option linter.unusedSimpArgs false
namespace Go.Proofs.YtpobnchalcokoaaDoor.Pam
open Go

theorem nms_0 (d : Nat) : nms d 0 = [] := rfl
theorem nms_1 (d : Nat) : nms d 1 = [d] := by simp [nms, NM, List.range_succ]
theorem nms_2 (d : Nat) : nms d 2 = [d, d + 50000] := by simp [nms, NM, List.range_succ]
theorem nms_3 (d : Nat) : nms d 3 = [d, d + 50000, d + 100000] := by simp [nms, NM, List.range_succ]
theorem newc_nil (d j : Nat) : newC d j [] = [] := rfl
theorem newc_cons (d j : Nat) (o : Ob) (r : List Ob) : newC d j (o :: r) = (NM d j, o) :: newC d (j + 1) r := rfl
theorem NM_0 (d : Nat) : NM d 0 = d := rfl
theorem NM_1 (d : Nat) : NM d 1 = d + 50000 := rfl
theorem NM_2 (d : Nat) : NM d 2 = d + 100000 := rfl
theorem toX_nil (m : Nat) : toX [] m = none := rfl
theorem toX_cons (n : Nat) (r : List Nat) (m : Nat) : toX (n :: r) m = if n = m then some 1000000 else (toX r m).map (· + 1) := by
  unfold toX
  rw [List.findIdx?_cons]
  by_cases h : n = m
  · simp [h, X]
  · simp only [h, beq_iff_eq, if_false]
    cases r.findIdx? (· == m) with
    | none => rfl
    | some i => simp [X, Nat.add_assoc]
theorem rn_nil (m : Nat) : rn [] m = if 1000000 ≤ m ∧ m < 2000000 then some m else none := rfl
theorem rn_cons1 (n m : Nat) : rn [n] m = if n = m then some 2000000 else if 1000000 ≤ m ∧ m < 2000000 then some m else none := by
  unfold rn
  by_cases h : n = m
  · simp [List.findIdx?_cons, h, F]
  · simp [List.findIdx?_cons, h]
theorem rn_cons2 (n n' m : Nat) : rn [n, n'] m = if n = m then some 2000000 else if n' = m then some 2000001 else if 1000000 ≤ m ∧ m < 2000000 then some m else none := by
  unfold rn
  by_cases h : n = m
  · simp [List.findIdx?_cons, h, F]
  · by_cases h' : n' = m
    · subst h'; simp [List.findIdx?_cons, h, F]
    · simp [List.findIdx?_cons, h, h']
theorem fa_nil (s : Env × Objs) : freezeAll [] s = s := rfl

/-- A LOOP whose state is told by 's', the places told apart from it. -/
theorem loop_at {Γ : Gam} {ks os : List Nat} {α : Type} {b : AC} {Q : Out → Env → Objs → Prop} {σ : Env} {O : Objs} (E : α → Env) (Ob : α → Objs) (I : α → Prop) (μ : α → Nat) (s : α) (hs : I s) (hE : E s = σ) (hO : Ob s = O)
    (round : ∀ s, I s → ∀ R : Out → Env → Objs → Prop, (∀ o σ O, (o = .norm → False) → Q o σ O → R o σ O) → (∀ s' σ' O', I s' → μ s' < μ s → E s' = σ' → Ob s' = O' → R .norm σ' O') → aw Γ ks os b R (E s) (Ob s)) : aw Γ ks os (.loop b) Q σ O := by
  rw [← hE, ← hO]
  exact loop_ind E Ob I μ (fun s hI R h1 h2 => round s hI R h1 fun s' σ' O' h3 h4 h5 h6 => by rw [← h5, ← h6]; exact h2 s' h3 h4) s hs

/-! parts of steps, as equations -/
theorem lenA_sl (O : Objs) (s : Nat) (xs : List PV) : lenA O (.p (.sl s xs)) = some xs.length := rfl
theorem lenA_nil (O : Objs) : lenA O (.p .nilsl) = some 0 := rfl
theorem lenA_ar (O : Objs) (n : Nat) : lenA O (.ar n) = match O n with | some (.arr _ xs) => some xs.length | _ => none := rfl
theorem lenA_sub (O : Objs) (n lo hi : Nat) : lenA O (.sub n lo hi) = match O n with | some (.arr _ _) => some (hi - lo) | _ => none := rfl
theorem elems_sl (O : Objs) (sz s : Nat) (xs : List PV) : elems O sz (.p (.sl s xs)) = if s = sz then some xs else none := rfl
theorem elems_nil (O : Objs) (sz : Nat) : elems O sz (.p .nilsl) = some [] := rfl
theorem elems_ar (O : Objs) (sz n : Nat) : elems O sz (.ar n) = match O n with | some (.arr s xs) => if s = sz then some xs else none | _ => none := rfl
theorem elems_sub (O : Objs) (sz n lo hi : Nat) : elems O sz (.sub n lo hi) = match O n with | some (.arr s xs) => if s = sz then some ((xs.drop lo).take (hi - lo)) else none | _ => none := rfl
theorem cells_agg (cs : List PV) : (PV.agg cs).cells = cs := rfl
theorem cells_int (k : IntKind) (n : Int) : (PV.int k n).cells = [.int k n] := rfl
theorem cells_bool (b : Bool) : (PV.bool b).cells = [.bool b] := rfl
theorem cells_str (b : ByteArray) : (PV.str b).cells = [.str b] := rfl
theorem cells_sl (s : Nat) (xs : List PV) : (PV.sl s xs).cells = [.sl s xs] := rfl
theorem cells_nilsl : PV.nilsl.cells = [.nilsl] := rfl
theorem cells_cp (cs : List PV) : (PV.cp cs).cells = [.cp cs] := rfl
theorem cells_np : PV.np.cells = [.np] := rfl
theorem cells_fn (f : FuncId) (a b : List PV) : (PV.fn f a b).cells = [.fn f a b] := rfl
theorem cells_nilfn : PV.nilfn.cells = [.nilfn] := rfl
theorem cells_mapv (es : List (PV × PV)) : (PV.mapv es).cells = [.mapv es] := rfl
theorem cells_nilmap : PV.nilmap.cells = [.nilmap] := rfl

/-! lists of numbers -/
abbrev iv (n : Int) : PV := .int .i64 n
abbrev si (n : Int) : SV := .p (.int .i64 n)
abbrev sb (b : Bool) : SV := .p (.bool b)
/-- The elements of a slice of numbers, of yes and no, of pairs. -/
def ints (l : List Int) : List PV := l.map fun n => .int .i64 n
def bools (l : List Bool) : List PV := l.map fun b => .bool b
theorem ints_len (l : List Int) : (ints l).length = l.length := by simp [ints]
theorem bools_len (l : List Bool) : (bools l).length = l.length := by simp [bools]
theorem ints_scal (l : List Int) : (ints l).all PV.scal = true := by simp [ints, PV.scal]
theorem bools_scal (l : List Bool) : (bools l).all PV.scal = true := by simp [bools, PV.scal]
theorem ints_get {l : List Int} {i : Nat} (h : i < l.length) : (ints l)[i]? = some (.int .i64 (l.getD i 0)) := by simp [ints, h]
theorem bools_get {l : List Bool} {i : Nat} (h : i < l.length) : (bools l)[i]? = some (.bool (l.getD i false)) := by simp [bools, h]
theorem ints_set (l : List Int) (i : Nat) (x : Int) : (ints l).set i (.int .i64 x) = ints (l.set i x) := by simp [ints, List.map_set]
theorem ints_nil : ([] : List PV) = ints [] := rfl
theorem ints_app (l m : List Int) : ints l ++ ints m = ints (l ++ m) := by simp [ints]
theorem bools_app (l m : List Bool) : bools l ++ bools m = bools (l ++ m) := by simp [bools]
theorem ints_app1 (l : List Int) (x : Int) : ints l ++ [.int .i64 x] = ints (l ++ [x]) := by simp [ints]
theorem bools_app1 (l : List Bool) (x : Bool) : bools l ++ [.bool x] = bools (l ++ [x]) := by simp [bools]
theorem ints_cut (l : List Int) (a b : Nat) : ((ints l).drop a).take b = ints ((l.drop a).take b) := by simp [ints, List.map_drop, List.map_take]
theorem ints_drop (l : List Int) (a : Nat) : (ints l).drop a = ints (l.drop a) := by simp [ints, List.map_drop]
theorem ints_take (l : List Int) (a : Nat) : (ints l).take a = ints (l.take a) := by simp [ints, List.map_take]
theorem ints_rep (n : Nat) (x : Int) : List.replicate n (PV.int .i64 x) = ints (List.replicate n x) := by simp [ints]
theorem bools_rep (n : Nat) (x : Bool) : List.replicate n (PV.bool x) = bools (List.replicate n x) := by simp [bools]
theorem bools_set (l : List Bool) (i : Nat) (x : Bool) : (bools l).set i (.bool x) = bools (l.set i x) := by simp [bools, List.map_set]
theorem ints_cell (l : List Int) : ((ints l).all fun y => y.cells.all PV.isCell) = true := by simp [ints, PV.cells, PV.isCell]
theorem bools_cell (l : List Bool) : ((bools l).all fun y => y.cells.all PV.isCell) = true := by simp [bools, PV.cells, PV.isCell]

/-! reading lists of numbers off -/
def isI (l : List PV) : Bool := l.all fun | .int .i64 _ => true | _ => false
def ofI (l : List PV) : List Int := l.map fun | .int _ n => n | _ => 0
def isBo (l : List PV) : Bool := l.all fun | .bool _ => true | _ => false
def ofBo (l : List PV) : List Bool := l.map fun | .bool n => n | _ => false
/-- Pairs of a number and a yes or no. -/
def asks (l : List (Int × Bool)) : List PV := l.map fun a => .agg [.int .i64 a.1, .bool a.2]
def isAs (l : List PV) : Bool := l.all fun | .agg [.int .i64 _, .bool _] => true | _ => false
def ofAs (l : List PV) : List (Int × Bool) := l.map fun | .agg [.int .i64 a, .bool b] => (a, b) | _ => (0, false)
theorem isI_ints (l : List Int) : isI (ints l) = true := by simp [isI, ints]
theorem ofI_ints (l : List Int) : ofI (ints l) = l := by simp [ofI, ints, Function.comp_def]
theorem isI_out : ∀ {l : List PV}, isI l = true → ∃ m, l = ints m
  | [], _ => ⟨[], rfl⟩
  | x :: r, h => by
    simp only [isI, List.all_cons, Bool.and_eq_true] at h
    obtain ⟨m, e⟩ := isI_out (l := r) (by simpa [isI] using h.2)
    split at h
    · rename_i n
      exact ⟨n :: m, by simp only [ints, List.map_cons] at e ⊢; rw [e]⟩
    · exact absurd h.1 (by simp)
theorem isBo_bools (l : List Bool) : isBo (bools l) = true := by simp [isBo, bools]
theorem ofBo_bools (l : List Bool) : ofBo (bools l) = l := by simp [ofBo, bools, Function.comp_def]
theorem isBo_out : ∀ {l : List PV}, isBo l = true → ∃ m, l = bools m
  | [], _ => ⟨[], rfl⟩
  | x :: r, h => by
    simp only [isBo, List.all_cons, Bool.and_eq_true] at h
    obtain ⟨m, e⟩ := isBo_out (l := r) (by simpa [isBo] using h.2)
    split at h
    · rename_i n
      exact ⟨n :: m, by simp only [bools, List.map_cons] at e ⊢; rw [e]⟩
    · exact absurd h.1 (by simp)
theorem isAs_asks (l : List (Int × Bool)) : isAs (asks l) = true := by simp [isAs, asks]
theorem ofAs_asks (l : List (Int × Bool)) : ofAs (asks l) = l := by simp [ofAs, asks, Function.comp_def]
theorem isAs_out : ∀ {l : List PV}, isAs l = true → ∃ m, l = asks m
  | [], _ => ⟨[], rfl⟩
  | x :: r, h => by
    simp only [isAs, List.all_cons, Bool.and_eq_true] at h
    obtain ⟨m, e⟩ := isAs_out (l := r) (by simpa [isAs] using h.2)
    split at h
    · rename_i a b
      exact ⟨(a, b) :: m, by simp only [asks, List.map_cons] at e ⊢; rw [e]⟩
    · exact absurd h.1 (by simp)
theorem asks_len (l : List (Int × Bool)) : (asks l).length = l.length := by simp [asks]
theorem asks_scal (l : List (Int × Bool)) : (asks l).all PV.scal = true := by simp [asks, PV.scal, PV.scalL]
theorem asks_get {l : List (Int × Bool)} {i : Nat} (h : i < l.length) : (asks l)[i]? = some (.agg [.int .i64 (l.getD i (0, false)).1, .bool (l.getD i (0, false)).2]) := by simp [asks, h]
theorem asks_app1 (l : List (Int × Bool)) (x : Int) (b : Bool) : asks l ++ [.agg [.int .i64 x, .bool b]] = asks (l ++ [(x, b)]) := by simp [asks]
theorem asks_set (l : List (Int × Bool)) (i : Nat) (x : Int) (b : Bool) : (asks l).set i (.agg [.int .i64 x, .bool b]) = asks (l.set i (x, b)) := by simp [asks, List.map_set]
theorem asks_rep (n : Nat) (x : Int) (b : Bool) : List.replicate n (PV.agg [.int .i64 x, .bool b]) = asks (List.replicate n (x, b)) := by simp [asks]
theorem asks_cell (l : List (Int × Bool)) : ((asks l).all fun y => y.cells.all PV.isCell) = true := by simp [asks, PV.cells, PV.isCell]

/-! slices that may be nil -/
def slI : PV → Option (List Int)
  | .sl 1 xs => if isI xs = true then some (ofI xs) else none
  | .nilsl => some []
  | _ => none
theorem slI_sl (l : List Int) : slI (.sl 1 (ints l)) = some l := by simp [slI, isI_ints, ofI_ints]
theorem slI_nil : slI .nilsl = some [] := rfl
theorem slI_out {v : PV} {l : List Int} (h : slI v = some l) : v = .sl 1 (ints l) ∨ (v = .nilsl ∧ l = []) := by
  unfold slI at h
  split at h
  · split at h
    · rename_i hs
      obtain ⟨m, rfl⟩ := isI_out hs
      injection h with h
      rw [ofI_ints] at h; subst h
      exact .inl rfl
    · cases h
  · injection h with h; exact .inr ⟨rfl, h.symm⟩
  · cases h
theorem slI_len {v : PV} {l : List Int} (h : slI v = some l) (O : Objs) : lenA O (.p v) = some l.length := by
  rcases slI_out h with rfl | ⟨rfl, rfl⟩ <;> simp [lenA, ints_len]
def slB : PV → Option (List Bool)
  | .sl 1 xs => if isBo xs = true then some (ofBo xs) else none
  | .nilsl => some []
  | _ => none
theorem slB_sl (l : List Bool) : slB (.sl 1 (bools l)) = some l := by simp [slB, isBo_bools, ofBo_bools]
theorem slB_nil : slB .nilsl = some [] := rfl
theorem slB_out {v : PV} {l : List Bool} (h : slB v = some l) : v = .sl 1 (bools l) ∨ (v = .nilsl ∧ l = []) := by
  unfold slB at h
  split at h
  · split at h
    · rename_i hs
      obtain ⟨m, rfl⟩ := isBo_out hs
      injection h with h
      rw [ofBo_bools] at h; subst h
      exact .inl rfl
    · cases h
  · injection h with h; exact .inr ⟨rfl, h.symm⟩
  · cases h
theorem slB_len {v : PV} {l : List Bool} (h : slB v = some l) (O : Objs) : lenA O (.p v) = some l.length := by
  rcases slB_out h with rfl | ⟨rfl, rfl⟩ <;> simp [lenA, bools_len]
def slA : PV → Option (List (Int × Bool))
  | .sl 2 xs => if isAs xs = true then some (ofAs xs) else none
  | .nilsl => some []
  | _ => none
theorem slA_sl (l : List (Int × Bool)) : slA (.sl 2 (asks l)) = some l := by simp [slA, isAs_asks, ofAs_asks]
theorem slA_nil : slA .nilsl = some [] := rfl
theorem slA_out {v : PV} {l : List (Int × Bool)} (h : slA v = some l) : v = .sl 2 (asks l) ∨ (v = .nilsl ∧ l = []) := by
  unfold slA at h
  split at h
  · split at h
    · rename_i hs
      obtain ⟨m, rfl⟩ := isAs_out hs
      injection h with h
      rw [ofAs_asks] at h; subst h
      exact .inl rfl
    · cases h
  · injection h with h; exact .inr ⟨rfl, h.symm⟩
  · cases h
theorem slA_len {v : PV} {l : List (Int × Bool)} (h : slA v = some l) (O : Objs) : lenA O (.p v) = some l.length := by
  rcases slA_out h with rfl | ⟨rfl, rfl⟩ <;> simp [lenA, asks_len]
def lenP : PV → Option Nat
  | .sl _ xs => some xs.length
  | .nilsl => some 0
  | _ => none
theorem lenP_A {v : PV} {n : Nat} (h : lenP v = some n) (O : Objs) : lenA O (.p v) = some n := by
  cases v <;> simp_all [lenP, lenA]

/-! small steps of loops -/
theorem getD_lt {α : Type} {l : List α} {i : Nat} {d : α} (h : i < l.length) : l.getD i d = l[i] := by simp [h]
theorem take_one {α : Type} (l : List α) (i : Nat) (d : α) (h : i < l.length) : l.take (i + 1) = l.take i ++ [l.getD i d] := by
  rw [List.take_succ_eq_append_getElem h, getD_lt h]
theorem foldl_one {α γ : Type} (f : γ → α → γ) (b : γ) (l : List α) (i : Nat) (d : α) (h : i < l.length) : (l.take (i + 1)).foldl f b = f ((l.take i).foldl f b) (l.getD i d) := by
  rw [take_one l i d h, List.foldl_append]; rfl
theorem all_one {α : Type} (p : α → Bool) (l : List α) (i : Nat) (d : α) (h : i < l.length) : (l.take (i + 1)).all p = ((l.take i).all p && p (l.getD i d)) := by
  rw [take_one l i d h]; simp
theorem toNat_one (i : Nat) : ((i : Int) + 1).toNat = i + 1 := by omega
theorem wrap_one {i : Nat} (h : i < 9223372036854775807) : IntKind.i64.wrap ((i : Int) + 1) = ((i + 1 : Nat) : Int) := by rw [wrap64 (by omega) (by omega)]; omega
/-! numbers as rows of bits -/
def andW (k : IntKind) (x y : Int) : Int := k.wrap (BitVec.ofInt k.bits x &&& BitVec.ofInt k.bits y).toNat
def orW (k : IntKind) (x y : Int) : Int := k.wrap (BitVec.ofInt k.bits x ||| BitVec.ofInt k.bits y).toNat
def xorW (k : IntKind) (x y : Int) : Int := k.wrap (BitVec.ofInt k.bits x ^^^ BitVec.ofInt k.bits y).toNat
theorem bitA_and (k : IntKind) (x y : Int) : bitA .and k x y = some (andW k x y) := rfl
theorem bitA_or (k : IntKind) (x y : Int) : bitA .or k x y = some (orW k x y) := rfl
theorem bitA_xor (k : IntKind) (x y : Int) : bitA .xor k x y = some (xorW k x y) := rfl
/-- The bit of a number at a place. -/
def bitW (q k : Int) : Int := andW .i64 (q.fdiv (2 ^ min k.toNat IntKind.i64.bits)) 1
theorem bitW_def (q k : Int) : andW .i64 (q.fdiv (2 ^ min k.toNat IntKind.i64.bits)) 1 = bitW q k := rfl
theorem bitW_nat (q : Int) (i : Nat) : andW .i64 (q.fdiv (2 ^ min i IntKind.i64.bits)) 1 = bitW q i := rfl
theorem bitW_01 (q k : Int) : bitW q k = 0 ∨ bitW q k = 1 := by
  unfold bitW andW
  have h : ∀ x : BitVec 64, (x &&& BitVec.ofInt 64 1).toNat = 0 ∨ (x &&& BitVec.ofInt 64 1).toNat = 1 := fun x => by
    have e : (x &&& BitVec.ofInt 64 1).toNat = x.toNat &&& 1 := by rw [BitVec.toNat_and]; rfl
    rw [e, Nat.and_one_is_mod]; omega
  have hb : IntKind.i64.bits = 64 := rfl
  have := h (BitVec.ofInt 64 (q.fdiv (2 ^ min k.toNat IntKind.i64.bits)))
  generalize BitVec.ofInt 64 (q.fdiv (2 ^ min k.toNat IntKind.i64.bits)) = x at this
  change IntKind.i64.wrap ((BitVec.ofInt 64 (q.fdiv (2 ^ min k.toNat IntKind.i64.bits)) &&& BitVec.ofInt 64 1).toNat : Int) = 0 ∨ IntKind.i64.wrap ((BitVec.ofInt 64 (q.fdiv (2 ^ min k.toNat IntKind.i64.bits)) &&& BitVec.ofInt 64 1).toNat : Int) = 1
  rcases h (BitVec.ofInt 64 (q.fdiv (2 ^ min k.toNat IntKind.i64.bits))) with h | h
  · left; rw [h]; decide
  · right; rw [h]; decide
theorem shl12 {n : Int} (h1 : 1 ≤ n) (h2 : n ≤ 12) : IntKind.i64.wrap (1 * 2 ^ min n.toNat IntKind.i64.bits) = 2 ^ n.toNat ∧ IntKind.i64.wrap ((2 : Int) ^ n.toNat - 1) = 2 ^ n.toNat - 1 := by
  have : n = 1 ∨ n = 2 ∨ n = 3 ∨ n = 4 ∨ n = 5 ∨ n = 6 ∨ n = 7 ∨ n = 8 ∨ n = 9 ∨ n = 10 ∨ n = 11 ∨ n = 12 := by omega
  rcases this with h | h | h | h | h | h | h | h | h | h | h | h <;> subst h <;> exact ⟨by decide, by decide⟩

/-! a list that is filled from the left -/
def fillL {α : Type} (g : Nat → α) (l : List α) (i : Nat) : List α := (List.range i).map g ++ l.drop i
theorem fill_0 {α : Type} (g : Nat → α) (l : List α) : fillL g l 0 = l := by simp [fillL]
theorem fill_end {α : Type} (g : Nat → α) (l : List α) : fillL g l l.length = (List.range l.length).map g := by simp [fillL]
theorem fill_len {α : Type} (g : Nat → α) (l : List α) {i : Nat} (h : i ≤ l.length) : (fillL g l i).length = l.length := by simp [fillL]; omega
theorem fill_get {α : Type} (g : Nat → α) (l : List α) {i : Nat} (d : α) (h : i < l.length) : (fillL g l i).getD i d = l.getD i d := by
  have h2 : i < (fillL g l i).length := by rw [fill_len g l (by omega)]; exact h
  rw [getD_lt h2, getD_lt h]
  simp only [fillL]
  rw [List.getElem_append_right (by simp)]
  simp
theorem fill_set {α : Type} (g : Nat → α) (l : List α) {i : Nat} (h : i < l.length) {x : α} (hx : x = g i) : (fillL g l i).set i x = fillL g l (i + 1) := by
  have e : l.drop i = l[i] :: l.drop (i + 1) := List.drop_eq_getElem_cons h
  subst hx
  simp only [fillL, List.range_succ, List.map_append, List.map_cons, List.map_nil, List.append_assoc, List.cons_append, List.nil_append]
  rw [List.set_append_right _ _ (by simp)]
  simp only [List.length_map, List.length_range, Nat.sub_self]
  rw [e, List.set_cons_zero]
theorem fill_same {α : Type} (g : Nat → α) (l : List α) {i : Nat} (d : α) (h : i < l.length) (hx : l.getD i d = g i) : fillL g l (i + 1) = fillL g l i := by
  have e : l.drop i = l[i] :: l.drop (i + 1) := List.drop_eq_getElem_cons h
  rw [getD_lt h] at hx
  simp only [fillL, List.range_succ, List.map_append, List.map_cons, List.map_nil, List.append_assoc, List.cons_append, List.nil_append]
  rw [e, ← hx]

/-! functions handed on -/
def boolOf : Option (SV × List Ob × List Ob) → Option Bool
  | some (.p (.bool t), [], []) => some t
  | _ => none
theorem boolOf_out {x : Option (SV × List Ob × List Ob)} {t : Bool} (h : boolOf x = some t) : x = some (.p (.bool t), [], []) := by
  unfold boolOf at h
  split at h
  · injection h with h; rw [h]
  · cases h
/-- What a function answers to each of a list. -/
def askF (Γ : Gam) (g : FuncId) (a b : List PV) (xs : List PV) : Option (List Bool) := xs.mapM fun x => boolOf (Γ g ((a ++ [x] ++ b).map .p) [])
theorem askF_len {Γ : Gam} {g : FuncId} {a b xs : List PV} {bs : List Bool} (h : askF Γ g a b xs = some bs) : bs.length = xs.length := (mapM_some h).1
theorem askF_get {Γ : Gam} {g : FuncId} {a b xs : List PV} {bs : List Bool} (h : askF Γ g a b xs = some bs) {i : Nat} {x : PV} (hx : xs[i]? = some x) : Γ g ((a ++ [x] ++ b).map .p) [] = some (.p (.bool (bs.getD i false)), [], []) := by
  obtain ⟨hl, hh⟩ := mapM_some h
  obtain ⟨hi, e⟩ := List.getElem?_eq_some_iff.1 hx
  have h2 := hh i hi (by omega)
  rw [e] at h2
  rw [getD_lt (by omega)]
  exact boolOf_out h2
theorem askF_eq {α : Type} {Γ : Gam} {g : FuncId} {a b : List PV} {l : List α} {φ : α → PV} {q : α → Bool} (h : ∀ x ∈ l, Γ g ((a ++ [φ x] ++ b).map .p) [] = some (.p (.bool (q x)), [], [])) : askF Γ g a b (l.map φ) = some (l.map q) := by
  unfold askF
  induction l with
  | nil => rfl
  | cons x r ih =>
    simp only [List.map_cons, List.mapM_cons]
    rw [h x (by simp), ih fun y hy => h y (by simp [hy])]
    rfl
theorem call_ps (O : Objs) (a b : List PV) (x : PV) : (a.map SV.p ++ [SV.p x] ++ b.map SV.p).mapM (snap O 4) = some (a ++ [x] ++ b) := by
  have : ∀ l : List PV, (l.map SV.p).mapM (snap O 4) = some l := fun l => by
    induction l with
    | nil => rfl
    | cons y r ih => simp only [List.map_cons, List.mapM_cons, ih]; rfl
  have e : a.map SV.p ++ [SV.p x] ++ b.map SV.p = (a ++ [x] ++ b).map SV.p := by simp
  rw [e]; exact this _
theorem refs_ps (a b : List PV) (x : PV) : SV.refsL (a.map SV.p ++ [SV.p x] ++ b.map SV.p) = [] := by
  have e : a.map SV.p ++ [SV.p x] ++ b.map SV.p = (a ++ [x] ++ b).map SV.p := by simp
  rw [e]
  induction (a ++ [x] ++ b) with
  | nil => rfl
  | cons z r ih => simp [SV.refsL, SV.refs, ih]
end Go.Proofs.YtpobnchalcokoaaDoor.Pam
