/- A part of the proof that stands in this folder: a small machine whose steps are shown to be the steps of the model, or walks of functions by it. No condition of its own. -/
import Derived.Laws.BytesString
import Derived.Laws.Cells
import Derived.Test.YtpobnchalcokoaaDoorPamD
import Derived.Laws.StructEq
set_option linter.unusedVariables false
set_option linter.unusedSimpArgs false
namespace Go.Proofs.YtpobnchalcokoaaDoor.Pam
open Go
section
variable {P : Program} {w : World} {S : Nat → Prop} {β : Nat → Nat} {O : Objs} {σ : Env} {a : Act} {o : Oper} {v : SV}

theorem binI_run {op : BinOp} {k : IntKind} {x y : Int} {r : PV} {t : TypeId} (h : binI op k x y = some r) : ∃ u, (binOp op t (.int k x) (.int k y)).run P w = .ok u w ∧ PR w S r u := by
  cases op <;> simp only [binI, bitA, Option.map_some] at h
  case quo =>
    split at h
    · cases h
    · rename_i hy; injection h with h; subst h
      exact ⟨_, by simp [binOp, Op.intDiv, hy], .int _ _⟩
  case rem =>
    split at h
    · cases h
    · rename_i hy; injection h with h; subst h
      exact ⟨_, by simp [binOp, Op.intDiv, hy], .int _ _⟩
  case shl =>
    split at h
    · cases h
    · rename_i hy; injection h with h; subst h
      exact ⟨_, by simp [binOp, Op.shift, hy], .int _ _⟩
  case shr =>
    split at h
    · cases h
    · rename_i hy; injection h with h; subst h
      exact ⟨_, by simp [binOp, Op.shift, hy], .int _ _⟩
  case add => injection h with h; subst h; exact ⟨.int k _, by rw [binOp_add]; rfl, .int _ _⟩
  case sub => injection h with h; subst h; exact ⟨.int k _, by rw [binOp_sub]; rfl, .int _ _⟩
  case mul => injection h with h; subst h; exact ⟨.int k _, by rw [binOp_mul]; rfl, .int _ _⟩
  case and => injection h with h; subst h; exact ⟨.int k _, by rw [binOp_and]; rfl, .int _ _⟩
  case or => injection h with h; subst h; exact ⟨.int k _, by rw [binOp_or]; rfl, .int _ _⟩
  case xor => injection h with h; subst h; exact ⟨.int k _, by rw [binOp_xor]; rfl, .int _ _⟩
  case andNot => injection h with h; subst h; exact ⟨.int k _, by rw [binOp_andNot]; rfl, .int _ _⟩
  case eql => injection h with h; subst h; exact ⟨.bool _, by rw [binOp_eql]; rfl, .bool _⟩
  case neq => injection h with h; subst h; exact ⟨.bool _, by rw [binOp_neq]; rfl, .bool _⟩
  case lss => injection h with h; subst h; exact ⟨.bool _, by rw [binOp_lss]; rfl, .bool _⟩
  case leq => injection h with h; subst h; exact ⟨.bool _, by rw [binOp_leq]; rfl, .bool _⟩
  case gtr => injection h with h; subst h; exact ⟨.bool _, by rw [binOp_gtr]; rfl, .bool _⟩
  case geq => injection h with h; subst h; exact ⟨.bool _, by rw [binOp_geq]; rfl, .bool _⟩

theorem shfI_run {op : BinOp} {k k' : IntKind} {x y : Int} {r : PV} {t : TypeId} (h : shfI op k x y = some r) : ∃ u, (binOp op t (.int k x) (.int k' y)).run P w = .ok u w ∧ PR w S r u := by
  cases op <;> simp only [shfI, binI] at h <;> first | (cases h; done) | skip
  all_goals
    split at h
    · cases h
    · rename_i hy; injection h with h; subst h
      exact ⟨_, by simp [binOp, Op.shift, hy], .int _ _⟩
theorem shfI_guard {op : BinOp} {k : IntKind} {x y : Int} {r : PV} {t : TypeId} {p q : Operand} {X Y : Value} (h : shfI op k x y = some r) : eqGuard op t p q X Y = pure () := by
  cases op <;> simp only [shfI] at h <;> first | (cases h; done) | skip
  all_goals rfl
theorem eqOut_run {op : BinOp} {b : Bool} {r : PV} {t : TypeId} {x y : Value} (hop : eqOut op b = some r) (he : (Op.equal t x y).run P w = .ok b w)
    (h1 : binOp .eql t x y = (do pure (.bool (← Op.equal t x y)))) (h2 : binOp .neq t x y = (do pure (.bool (!(← Op.equal t x y))))) : ∃ u, (binOp op t x y).run P w = .ok u w ∧ PR w S r u := by
  cases op <;> simp only [eqOut] at hop <;> first | (cases hop; done) | skip
  · injection hop with hop; subst hop; exact ⟨.bool b, by rw [h1]; simp [he], .bool _⟩
  · injection hop with hop; subst hop; exact ⟨.bool !b, by rw [h2]; simp [he], .bool _⟩

theorem eqIn_bool (d : Nat) {t : TypeId} {a b : Bool} (h : P.underlying t = some .bool) : (Op.equalIn (d + 1) t (.bool a) (.bool b)).run P w = .ok (a == b) w := by simp [Op.equalIn, run_underlying h]
theorem eqIn_slice (d : Nat) {t e : TypeId} {b : Option Addr} {n c m k : Nat} (h : P.underlying t = some (.slice e)) : (Op.equalIn (d + 1) t (.slice b n c) (.slice none m k)).run P w = .ok b.isNone w := by
  cases b <;> simp [Op.equalIn, run_underlying h]
theorem eqIn_ptr (d : Nat) {t e : TypeId} {b : Option Addr} (h : P.underlying t = some (.pointer e)) : (Op.equalIn (d + 1) t (.pointer b) (.pointer none)).run P w = .ok b.isNone w := by
  cases b <;> simp [Op.equalIn, run_underlying h]

theorem isSl_val {sv : SV} {x : Value} (h : SR w S β O sv x) (hs : isSl O sv = true) : ∃ b l c, x = .slice (some b) l c := by
  unfold isSl at hs
  split at hs
  · have hp := h.p_inv; cases hp with | sl _ _ b off len cap _ _ _ _ _ _ _ => exact ⟨_, _, _, rfl⟩
  · obtain ⟨_, _, _, _, h, _⟩ := h.ar_inv (by intro e; simp [e] at hs); exact ⟨_, _, _, h⟩
  · obtain ⟨_, _, _, _, _, h, _⟩ := h.sub_inv (by intro e; simp [e] at hs); exact ⟨_, _, _, h⟩
  · cases hs
theorem isPt_val {sv : SV} {x : Value} (h : SR w S β O sv x) (hs : isPt O sv = true) : ∃ b, x = .pointer (some b) := by
  unfold isPt at hs
  split at hs
  · have hp := h.p_inv; cases hp with | cp _ b off _ _ _ _ => exact ⟨_, rfl⟩
  · obtain ⟨h, _⟩ := h.bx_inv (by intro e; simp [e] at hs); exact ⟨_, h⟩
  · cases hs

theorem sim_bin {op : BinOp} {t t' : TypeId} {x y : Operand} {x' y' : Od} {kd : EK} (hs : Slots w S β O σ a.tmps) (ho : o.op = .binOp op t x y t') (hx : odOf x = some x') (hy : odOf y = some y') (hk : tyKind P t = some kd) {Γ : Gam}
    (hd : stepD Γ O (ev σ) (.bin kd op x' y') = some v) : Val P w S β O a o v := by
  have rx := od_rel hs hx
  have ry := od_rel hs hy
  simp only [stepD] at hd
  cases hb : binA O kd op (ev σ x') (ev σ y') with
  | none => simp [hb] at hd
  | some r =>
    simp [hb] at hd; subst hd
    have main : ∀ X Y, a.eval x = X → a.eval y = Y → eqGuard op t x y X Y = pure () → (∃ u, (binOp op t X Y).run P w = .ok u w ∧ PR w S r u) → Val P w S β O a o (.p r) := by
      intro X Y hX hY hg ⟨u, hu, hr⟩
      refine ⟨u, ?_, .p _ _ hr⟩
      simp [execOp, ho, hX, hY, hg, hu]
    unfold binA at hb
    cases kd with
    | arith =>
      simp only at hb
      split at hb
      · rename_i k n k' m h1 h2
        split at hb
        · rename_i hkk; subst hkk
          rw [h1] at rx; rw [h2] at ry
          exact main _ _ rx.int_inv ry.int_inv (eqGuard_at_int _ _ _ _ _ _ _) (binI_run hb)
        · rw [h1] at rx; rw [h2] at ry
          exact main _ _ rx.int_inv ry.int_inv (shfI_guard hb) (shfI_run hb)
      · cases hb
    | bool =>
      simp only at hb
      split at hb
      · rename_i b c h1 h2
        rw [h1] at rx; rw [h2] at ry
        have ht : P.underlying t = some .bool := by
          unfold tyKind at hk; (repeat' split at hk) <;> simp_all
        exact main _ _ rx.bool_inv ry.bool_inv (eqGuard_at_bool _ _ _ _ _ _) (eqOut_run hb (eqIn_bool 9999 ht) rfl rfl)
      · cases hb
    | str =>
      simp only at hb
      split at hb
      · rename_i p q h1 h2
        rw [h1] at rx; rw [h2] at ry
        have hX : a.eval x = .string p := by have hp := rx.p_inv; generalize a.eval x = u at hp; cases hp; rfl
        have hY : a.eval y = .string q := by have hp := ry.p_inv; generalize a.eval y = u at hp; cases hp; rfl
        refine main _ _ hX hY ?_ ?_
        · unfold eqGuard; split <;> rfl
        · unfold binS at hb
          split at hb
          · split at hb
            · rename_i hle
              injection hb with hb; subst hb
              have emx : IntKind.i64.max = 9223372036854775807 := by decide
              have hng : ¬ (((p.size + q.size : Nat) : Int) > IntKind.i64.max) := by rw [emx]; omega
              refine ⟨.string (p ++ q), ?_, .str _⟩
              simp only [binOp, Op.stringOp, if_neg hng]
              rfl
            · cases hb
          · injection hb with hb; subst hb; exact ⟨_, by simp only [binOp, Op.stringOp]; rfl, .bool _⟩
          · injection hb with hb; subst hb; exact ⟨_, by simp only [binOp, Op.stringOp]; rfl, .bool _⟩
          · injection hb with hb; subst hb; exact ⟨_, by simp only [binOp, Op.stringOp]; rfl, .bool _⟩
          · cases hb
      · cases hb
    | slice =>
      simp only at hb
      have ht : ∃ e, P.underlying t = some (.slice e) := by
        unfold tyKind at hk; (repeat' split at hk) <;> simp_all
      obtain ⟨e, ht⟩ := ht
      split at hb
      · rename_i h2
        rw [h2] at ry
        have hy' : a.eval y = .slice none 0 0 := by have hp := ry.p_inv; generalize a.eval y = u at hp; cases hp; rfl
        split at hb
        · rename_i h1
          rw [h1] at rx
          have hx' : a.eval x = .slice none 0 0 := by have hp := rx.p_inv; generalize a.eval x = u at hp; cases hp; rfl
          exact main _ _ hx' hy' (eqGuard_at_slice _ _ _ _ _ _ _ _) (eqOut_run hb (eqIn_slice 9999 ht) rfl rfl)
        · split at hb
          · rename_i hsl
            obtain ⟨b, l, c, hx'⟩ := isSl_val rx hsl
            exact main _ _ hx' hy' (eqGuard_at_slice _ _ _ _ _ _ _ _) (eqOut_run hb (eqIn_slice 9999 ht) rfl rfl)
          · cases hb
      · cases hb
    | ptr =>
      simp only at hb
      have ht : ∃ e, P.underlying t = some (.pointer e) := by
        unfold tyKind at hk; (repeat' split at hk) <;> simp_all
      obtain ⟨e, ht⟩ := ht
      split at hb
      · rename_i h2
        rw [h2] at ry
        have hy' : a.eval y = .pointer none := by have hp := ry.p_inv; generalize a.eval y = u at hp; cases hp; rfl
        split at hb
        · rename_i h1
          rw [h1] at rx
          have hx' : a.eval x = .pointer none := by have hp := rx.p_inv; generalize a.eval x = u at hp; cases hp; rfl
          exact main _ _ hx' hy' (eqGuard_at_pointer _ _ _ _ _ _) (eqOut_run hb (eqIn_ptr 9999 ht) rfl rfl)
        · split at hb
          · rename_i hsl
            obtain ⟨b, hx'⟩ := isPt_val rx hsl
            exact main _ _ hx' hy' (eqGuard_at_pointer _ _ _ _ _ _) (eqOut_run hb (eqIn_ptr 9999 ht) rfl rfl)
          · cases hb
      · cases hb
    | arr n =>
      simp only at hb
      have ht : ∃ e q, P.underlying t = some (.array n e) ∧ P.underlying e = some (.int q) ∧ tySz P e = some 1 ∧ P.eqGuardType P.depth t = false := by
        unfold tyKind at hk
        split at hk <;> first | (cases hk; done) | skip
        rename_i n' e hu
        split at hk
        · rename_i q he
          split at hk
          · rename_i h1; injection hk with hk; injection hk with hk; subst hk; exact ⟨e, q, hu, he, h1.1, h1.2⟩
          · cases hk
        · cases hk
      obtain ⟨e, q, hu, he, h1, hg⟩ := ht
      split at hb
      · rename_i k k' h2 h3
        obtain ⟨cs, vs, rfl, hX, hv, hn, _⟩ := (keyA_val rx h2).2.2 n rfl
        obtain ⟨cs', vs', rfl, hY, hv', hn', _⟩ := (keyA_val ry h3).2.2 n rfl
        split at hb
        · rename_i r' hr'
          obtain ⟨u, hu1, hu2⟩ := eqOut_run (w := w) (S := S) hb (run_equal_arr 9998 hu he h1 hv hv' hn hn' hr') rfl rfl
          refine ⟨u, ?_, .p _ _ hu2⟩
          simp [execOp, ho, hX, hY, run_eqGuard_agg w op t x y vs vs' hg, hu1]
        · cases hb
      · cases hb

theorem natOf_val {sv : SV} {x : Value} {n : Nat} (h : SR w S β O sv x) (hn : natOf sv = some n) : ∃ k, x = .int k n := by
  unfold natOf at hn
  split at hn
  · rename_i k i
    split at hn
    · rename_i h0
      injection hn with hn; subst hn
      exact ⟨k, by rw [h.int_inv, Int.toNat_of_nonneg h0]⟩
    · cases hn
  · cases hn

theorem lenA_val {sv : SV} {x : Value} {n : Nat} (h : SR w S β O sv x) (hn : lenA O sv = some n) : ∃ b c, x = .slice b n c ∧ n ≤ c := by
  unfold lenA at hn
  split at hn
  · injection hn with hn; subst hn
    have hp := h.p_inv; cases hp with | sl _ _ b off len cap _ hl hc _ _ _ _ => subst hl; exact ⟨_, cap, rfl, hc⟩
  · injection hn with hn; subst hn
    have hp := h.p_inv; cases hp; exact ⟨none, 0, rfl, Nat.le_refl _⟩
  · split at hn
    · rename_i hm
      injection hn with hn; subst hn
      obtain ⟨_, _, cap, h1, h2, h3, _⟩ := h.ar_inv (by rw [hm]; simp)
      rw [hm] at h1; cases h1
      exact ⟨_, cap, h2, h3⟩
    · cases hn
  · split at hn
    · rename_i hm
      injection hn with hn; subst hn
      obtain ⟨_, _, _, cap, h1, h2, h3, h4, h5, _⟩ := h.sub_inv (by rw [hm]; simp)
      exact ⟨_, cap, h2, h5⟩
    · cases hn
  · cases hn

theorem call_args {c : Call} {x : Operand} (h : c.args.toList = [x]) : c.args.map a.eval = #[a.eval x] := by apply Array.ext'; simp [h]
theorem call_args2 {c : Call} {x y : Operand} (h : c.args.toList = [x, y]) : c.args.map a.eval = #[a.eval x, a.eval y] := by apply Array.ext'; simp [h]

theorem sim_len {c : Call} {x : Operand} {y : Od} {t e : TypeId} (hs : Slots w S β O σ a.tmps) (ho : o.op = .call c) (hc : c.callee = .builtin .len) (hargs : c.args.toList = [x]) (ht : c.argTypes[0]? = some t)
    (hu : P.underlying t = some (.slice e)) (hy : odOf x = some y) {Γ : Gam} (hd : stepD Γ O (ev σ) (.len y) = some v) : Val P w S β O a o v := by
  have hx := od_rel hs hy
  simp only [stepD] at hd
  cases hl : lenA O (ev σ y) with
  | none => simp [hl] at hd
  | some n =>
    simp [hl] at hd; subst hd
    refine ⟨.int .i64 n, ?_, .p _ _ (.int _ _)⟩
    obtain ⟨b, cp, he, _⟩ := lenA_val hx hl
    simp [execOp, ho, resolve, hc, call_args hargs, invoke, builtin, Builtin.len_, ht, run_underlying hu, he, goInt]

theorem sim_lenS {c : Call} {x : Operand} {y : Od} {t : TypeId} (hs : Slots w S β O σ a.tmps) (ho : o.op = .call c) (hc : c.callee = .builtin .len) (hargs : c.args.toList = [x]) (ht : c.argTypes[0]? = some t)
    (hu : P.underlying t = some .string) (hy : odOf x = some y) {Γ : Gam} (hd : stepD Γ O (ev σ) (.lenS y) = some v) : Val P w S β O a o v := by
  have hx := od_rel hs hy
  simp only [stepD] at hd
  split at hd
  · rename_i s hb
    injection hd with hd; subst hd
    rw [hb] at hx
    have hp := hx.p_inv
    generalize hax : a.eval x = u at hp
    cases hp
    refine ⟨.int .i64 s.size, ?_, .p _ _ (.int _ _)⟩
    simp [execOp, ho, resolve, hc, call_args hargs, invoke, builtin, Builtin.len_, ht, run_underlying hu, hax, goInt]
  · cases hd

theorem sim_max2 {c : Call} {x y : Operand} {x' y' : Od} (hs : Slots w S β O σ a.tmps) (ho : o.op = .call c) (hc : c.callee = .builtin .max) (hargs : c.args.toList = [x, y]) (hx : odOf x = some x') (hy : odOf y = some y') {Γ : Gam}
    (hd : stepD Γ O (ev σ) (.max2 x' y') = some v) : Val P w S β O a o v := by
  have rx := od_rel hs hx
  have ry := od_rel hs hy
  simp only [stepD] at hd
  split at hd
  · rename_i k n k' m h1 h2
    split at hd
    · rename_i hk; subst hk
      injection hd with hd; subst hd
      rw [h1] at rx; rw [h2] at ry
      refine ⟨.int k (if m > n then m else n), ?_, .p _ _ (.int _ _)⟩
      simp [execOp, ho, resolve, hc, call_args2 hargs, invoke, builtin, Builtin.max_, Builtin.max2, rx.int_inv, ry.int_inv]
    · cases hd
  · cases hd

theorem sim_min2 {c : Call} {x y : Operand} {x' y' : Od} (hs : Slots w S β O σ a.tmps) (ho : o.op = .call c) (hc : c.callee = .builtin .min) (hargs : c.args.toList = [x, y]) (hx : odOf x = some x') (hy : odOf y = some y') {Γ : Gam}
    (hd : stepD Γ O (ev σ) (.min2 x' y') = some v) : Val P w S β O a o v := by
  have rx := od_rel hs hx
  have ry := od_rel hs hy
  simp only [stepD] at hd
  split at hd
  · rename_i k n k' m h1 h2
    split at hd
    · rename_i hk; subst hk
      injection hd with hd; subst hd
      rw [h1] at rx; rw [h2] at ry
      refine ⟨.int k (if m < n then m else n), ?_, .p _ _ (.int _ _)⟩
      simp [execOp, ho, resolve, hc, call_args2 hargs, invoke, builtin, Builtin.min_, Builtin.min2, rx.int_inv, ry.int_inv]
    · cases hd
  · cases hd

theorem sim_idxS {t : TypeId} {x i : Operand} {y i' : Od} (hs : Slots w S β O σ a.tmps) (ho : o.op = .index t x i) (ht : P.underlying t = some .string) (hy : odOf x = some y) (hi : odOf i = some i') {Γ : Gam}
    (hd : stepD Γ O (ev σ) (.idxS y i') = some v) : Val P w S β O a o v := by
  simp only [stepD] at hd
  split at hd
  · rename_i s n hb hn
    have hx := od_rel hs hy
    rw [hb] at hx
    have hX : a.eval x = .string s := by have hp := hx.p_inv; generalize a.eval x = u at hp; cases hp; rfl
    obtain ⟨k, hk⟩ := natOf_val (od_rel hs hi) hn
    split at hd
    · rename_i b hsn
      injection hd with hd; subst hd
      exact ⟨.int .u8 (b.toNat : Int), by simp [execOp, ho, Instr.index, asIntOf, run_underlying ht, hX, hk, hsn], .p _ _ (.int _ _)⟩
    · cases hd
  · cases hd

theorem u8s_out : ∀ {xs : List PV} {ns : List Int}, u8sOf xs = some ns → xs = ns.map (PV.int .u8)
  | [], ns, h => by simp [u8sOf] at h; subst h; rfl
  | x :: r, ns, h => by
    cases x with
    | int k n =>
      cases k with
      | u8 =>
        simp only [u8sOf] at h
        cases hr : u8sOf r with
        | none => simp [hr] at h
        | some q => simp [hr] at h; subst h; rw [u8s_out hr]; rfl
      | _ => simp [u8sOf] at h
    | _ => simp [u8sOf] at h

theorem flat_u8s : ∀ ns : List Int, flat (ns.map (PV.int .u8)) = ns.map (PV.int .u8)
  | [] => rfl
  | n :: r => by
    have ih := flat_u8s r
    unfold flat at ih ⊢
    rw [List.map_cons, List.flatMap_cons, ih]; rfl
theorem PR.u8_inv {n : Int} {x : Value} (h : PR w S (.int .u8 n) x) : x = .int .u8 n := by cases h; rfl
theorem sim_convS {s t e : TypeId} {x : Operand} {y : Od} (hr : Rel w S β O) (hs : Slots w S β O σ a.tmps) (ho : o.op = .convert s t x) (h1 : P.underlying s = some (.slice e)) (h2 : P.underlying t = some .string) (h3 : P.underlying e = some (.int .u8)) (hy : odOf x = some y) {Γ : Gam}
    (hd : stepD Γ O (ev σ) (.convS y) = some v) : Val P w S β O a o v := by
  simp only [stepD] at hd
  split at hd
  · rename_i m hb
    have hx := od_rel hs hy
    rw [hb] at hx
    split at hd
    · rename_i xs hm
      cases hu : u8sOf xs with
      | none => simp [hu] at hd
      | some ns =>
        simp only [hu, Option.map_some, Option.some.injEq] at hd
        subst hd
        have hxs := u8s_out hu
        obtain ⟨sz, xs', cap, hm', he, hle, _⟩ := hx.ar_inv (by rw [hm]; simp)
        rw [hm] at hm'; cases hm'
        obtain ⟨c, ty, hh, hsz, hlen, hcell⟩ := hr.obj m _ hm
        have hf : flat xs = xs := by
          rw [hxs]; exact flat_u8s ns
        have hl : xs.length = ns.length := by rw [hxs]; simp
        have hload : (loadCells ⟨β m, 0, none⟩ xs.length).run P w = .ok (ns.map (Value.int .u8)).toArray w := by
          have := run_loadCells_list (P := P) (w := w) ⟨β m, 0, none⟩ (ns.map (Value.int .u8)) (fun j v hv => by
            rw [List.getElem?_map] at hv
            cases hn : ns[j]? with
            | none => simp [hn] at hv
            | some n =>
              simp [hn] at hv; subst hv
              have hj : j < ns.length := (List.getElem?_eq_some_iff.1 hn).1
              have h5 := hcell j (by rw [hf]; omega)
              have e5 : (flat xs)[j]'(by rw [hf]; omega) = .int .u8 n := by
                have : xs[j]'(by omega) = .int .u8 n := by
                  have h6 : xs[j]? = some (.int .u8 n) := by rw [hxs, List.getElem?_map, hn]; rfl
                  exact (List.getElem?_eq_some_iff.1 h6).2
                simp only [hf]; exact this
              rw [e5] at h5
              have hc : c.getD j undef = .int .u8 n := h5.u8_inv
              have hjc : j < c.size := by rw [hf] at hlen; omega
              simp [World.cell?, Addr.add_lit, hh]
              simp [hjc] at hc ⊢
              exact hc)
          simpa [hl] using this
        exact ⟨.string (pushB ns), by simp [execOp, ho, convert, run_underlying h1, run_underlying h2, run_underlying h3, he, run_bytesToString w _ xs.length cap ns hload, pushB], .p _ _ (.str _)⟩
    · cases hd
  · cases hd
end
end Go.Proofs.YtpobnchalcokoaaDoor.Pam
