/- A part of the proof that stands in this folder: a small machine whose steps are shown to be the steps of the model, or walks of functions by it. No condition of its own. -/
import Derived.Test.YtpobnchalcokoaaDoorPamU
set_option linter.unusedVariables false
set_option linter.unusedSimpArgs false
namespace Go.Proofs.YtpobnchalcokoaaDoor.Pam
open Go

/-! the machine's steps, as equations to rewrite by -/
section
variable {Γ : Gam} {ks os : List Nat} {σ : Env} {O : Objs} {l : List (Nat × SV)} {m : List (Nat × Option Ob)} {K : Env → Objs → Prop} {Q : Out → Env → Objs → Prop}

theorem put_mk (d : Nat) (v : SV) : put (some d) v (mkEnv l) = mkEnv ((d, v) :: l) := by funext i; rfl
theorem put_no (v : SV) : put none v σ = σ := rfl
theorem mk_hit (k : Nat) (v : SV) : mkEnv ((k, v) :: l) k = v := by simp [mkEnv]
theorem mk_miss {k i : Nat} (v : SV) (h : i ≠ k) : mkEnv ((k, v) :: l) i = mkEnv l i := by simp [mkEnv, h]
theorem mkE_cons (k i : Nat) (v : SV) : mkEnv ((k, v) :: l) i = if i = k then v else mkEnv l i := rfl
theorem mkO_cons (k i : Nat) (o : Option Ob) : mkO ((k, o) :: m) i = if i = k then o else mkO m i := rfl
theorem mk_nil (i : Nat) : mkEnv [] i = .junk := rfl
theorem mkO_hit (k : Nat) (o : Option Ob) : mkO ((k, o) :: m) k = o := by simp [mkO]
theorem mkO_miss {k i : Nat} (o : Option Ob) (h : i ≠ k) : mkO ((k, o) :: m) i = mkO m i := by simp [mkO, h]
theorem mkO_nil (i : Nat) : mkO [] i = none := rfl
theorem setO_mk (k : Nat) (o : Option Ob) : setO k o (mkO m) = mkO ((k, o) :: m) := by funext i; rfl
theorem ev_t (n : Nat) : ev σ (.t n) = σ n := rfl
theorem ev_c (v : PV) : ev σ (.c v) = .p v := rfl
theorem ev_f (g : FuncId) : ev σ (.f g) = .p (.fn g [] []) := rfl

theorem run_nil : runOps Γ [] σ O K = K σ O := rfl
/-! What comes behind is handed on as an instance, which 'simp' leaves alone: else it would walk the rest of the code before its time. -/
class KD where
  k : SV → Prop
class KW where
  k : SV → Env → Objs → Prop
class KN where
  k : Env → Objs → Prop
class KP where
  p : Prop
class KQ where
  p : Prop
/-- What comes behind a value. -/
def bindD (x : Option SV) [c : KD] : Prop := match x with
  | some v => c.k v
  | none => False
def bindW (x : Option (SV × Env × Objs)) [c : KW] : Prop := match x with
  | some (v, σ, O) => c.k v σ O
  | none => False
theorem bindD_some {v : SV} {k : SV → Prop} : @bindD (some v) ⟨k⟩ = k v := rfl
theorem bindW_some {v : SV} {k : SV → Env → Objs → Prop} : @bindW (some (v, σ, O)) ⟨k⟩ = k v σ O := rfl
theorem run_d {dst : Option Nat} {op : DOp} {r : List RO} : runOps Γ (⟨dst, none, .d op⟩ :: r) σ O K = @bindD (stepD Γ O (ev σ) op) ⟨fun v => runOps Γ r (put dst v σ) O K⟩ := by
  simp only [runOps, wantA, stepA, bindD]
  cases stepD Γ O (ev σ) op <;> simp
theorem run_w {dst : Option Nat} {op : WOp} {r : List RO} : runOps Γ (⟨dst, none, .w op⟩ :: r) σ O K = @bindW (stepW Γ dst σ O op) ⟨fun v σ' O' => runOps Γ r (put dst v σ') O' K⟩ := by
  simp only [runOps, wantA, stepA, bindW]
  cases h : stepW Γ dst σ O op with
  | none => simp
  | some p => obtain ⟨v, σ', O'⟩ := p; simp
/-- A guarded operation. -/
def gd (v : SV) (b : Bool) [A : KP] [B : KQ] : Prop := match v with
  | .p (.bool t) => if t = b then A.p else B.p
  | .un => B.p
  | _ => False
theorem gd_b {t b : Bool} {A B : Prop} : @gd (.p (.bool t)) b ⟨A⟩ ⟨B⟩ = if t = b then A else B := rfl
theorem gd_un {b : Bool} {A B : Prop} : @gd .un b ⟨A⟩ ⟨B⟩ = B := rfl
theorem run_g {dst : Option Nat} {g : Nat} {b : Bool} {op : AOp} {r : List RO} : runOps Γ (⟨dst, some (g, b), op⟩ :: r) σ O K = @gd (σ g) b ⟨runOps Γ (⟨dst, none, op⟩ :: r) σ O K⟩ ⟨runOps Γ r (put dst .un σ) O K⟩ := by
  unfold gd
  simp only [runOps, wantA]
  cases h : σ g with
  | p v =>
    cases v with
    | bool t => cases t <;> cases b <;> simp [stepA]
    | _ => simp
  | _ => simp

/-- What an operation of the open part must not lead to. -/
def chk (ex : List Nat) (x : Option SV) : Option SV := match x with
  | some v => if offs ex v = true then some v else none
  | none => none
theorem offs_nil (v : SV) : offs [] v = true := by simp [offs]
theorem chk_nil (x : Option SV) : chk [] x = x := by cases x <;> simp [chk, offs_nil]
theorem chk_some (ex : List Nat) (v : SV) : chk ex (some v) = if offs ex v = true then some v else none := rfl
theorem hide_nil : hideO [] O = O := rfl
theorem hide_cons (n : Nat) (r : List Nat) : hideO (n :: r) O = setO n none (hideO r O) := rfl
class KM where
  k : SV → List (Nat × Ob) → Prop
def bindM (ex : List Nat) (x : Option (SV × List (Nat × Ob))) [c : KM] : Prop := match x with
  | some (v, new) => if offs ex v = true then c.k v new else False
  | none => False
theorem bindM_some {ex : List Nat} {v : SV} {new : List (Nat × Ob)} {k : SV → List (Nat × Ob) → Prop} : @bindM ex (some (v, new)) ⟨k⟩ = if offs ex v = true then k v new else False := rfl
theorem runb_nil : runB Γ [] σ O K = K σ O := rfl
theorem runb_d {ex : List Nat} {dst : Option Nat} {op : DOp} {r : List (List Nat × RO)} : runB Γ ((ex, ⟨dst, none, .d op⟩) :: r) σ O K = @bindD (chk (exL op ex) (stepD Γ (hideO ex O) (ev σ) op)) ⟨fun v => runB Γ r (put dst v σ) O K⟩ := by
  simp only [runB, wantA, bindD, chk]
  cases stepD Γ (hideO ex O) (ev σ) op with
  | none => simp
  | some v => by_cases h : offs (exL op ex) v = true <;> simp [h]
theorem runb_w {ex : List Nat} {dst : Option Nat} {op : WOp} {r : List (List Nat × RO)} : runB Γ ((ex, ⟨dst, none, .w op⟩) :: r) σ O K = @bindM ex (stepM Γ dst (hideO ex O) (ev σ) op) ⟨fun v new => runB Γ r (put dst v σ) (setL new O) K⟩ := by
  simp only [runB, wantA, bindM]
  cases h : stepM Γ dst (hideO ex O) (ev σ) op with
  | none => simp
  | some p => obtain ⟨v, new⟩ := p; by_cases h : offs ex v = true <;> simp [h]
theorem runb_g {ex : List Nat} {dst : Option Nat} {g : Nat} {b : Bool} {op : AOp} {r : List (List Nat × RO)} : runB Γ ((ex, ⟨dst, some (g, b), op⟩) :: r) σ O K = @gd (σ g) b ⟨runB Γ ((ex, ⟨dst, none, op⟩) :: r) σ O K⟩ ⟨runB Γ r (put dst .un σ) O K⟩ := by
  unfold gd
  simp only [runB, wantA]
  cases h : σ g with
  | p v =>
    cases v with
    | bool t => cases t <;> cases b <;> simp
    | _ => simp
  | _ => simp

/-- The slots and objects that are kept, told anew. -/
def nrm (σ : Env) (O : Objs) [k : KN] : Prop := k.k σ O
theorem nrm_mk {k : Env → Objs → Prop} : @nrm (mkEnv l) (mkO m) ⟨k⟩ = k (mkEnv l) (mkO m) := rfl
theorem aw_reg {ops : List RO} : aw Γ ks os (.reg ops) Q σ O = runOps Γ ops σ O fun σ' O' => @nrm (keepE ks σ') (keepO os O') ⟨Q .norm⟩ := rfl
def bindS (s : Env × Objs) [k : KN] : Prop := k.k s.1 s.2
theorem bindS_mk {k : Env → Objs → Prop} : @bindS (σ, O) ⟨k⟩ = k σ O := rfl
theorem aw_dreg {pend : List Nat} {b : List (List Nat × RO)} {t : List RO} : aw Γ ks os (.dreg pend b t) Q σ O = @bindS (freezeAll pend (σ, O)) ⟨fun σ O => runB Γ b σ O fun σ' O' => runOps Γ t σ' O' fun σ'' O'' => @nrm (keepE ks σ'') (keepO os O'') ⟨Q .norm⟩⟩ := rfl
theorem aw_skip : aw Γ ks os .skip Q σ O = Q .norm σ O := rfl
theorem aw_ret : aw Γ ks os .ret Q σ O = Q .ret σ O := rfl
theorem aw_exit {id : Nat} : aw Γ ks os (.exit id) Q σ O = Q (.exit id) σ O := rfl
theorem aw_seq {a b : AC} : aw Γ ks os (.seq a b) Q σ O = aw Γ ks os a (fun o σ' O' => match o with | .norm => aw Γ ks os b Q σ' O' | o => Q o σ' O') σ O := rfl
theorem aw_block {id : Nat} {b : AC} : aw Γ ks os (.block id b) Q σ O = aw Γ ks os b (fun o σ' O' => match o with | .exit i => (if i = id then Q .norm σ' O' else Q (.exit i) σ' O') | o => Q o σ' O') σ O := rfl
/-- A branch. -/
def br (v : SV) [A : KP] [B : KQ] : Prop := match v with
  | .p (.bool t) => if t = true then A.p else B.p
  | _ => False
theorem br_b {t : Bool} {A B : Prop} : @br (.p (.bool t)) ⟨A⟩ ⟨B⟩ = if t = true then A else B := rfl
theorem aw_cond {c : Od} {a b : AC} : aw Γ ks os (.cond c a b) Q σ O = @br (ev σ c) ⟨aw Γ ks os a Q σ O⟩ ⟨aw Γ ks os b Q σ O⟩ := by
  simp only [aw, br]
  cases h : ev σ c with
  | p v =>
    cases v with
    | bool t => simp
    | _ => simp
  | _ => simp


theorem keepE_mk : keepE ks σ = mkEnv (ks.map fun k => (k, σ k)) := rfl

/-- Giving up the names of a list. -/
def trP (f : SV → SV) : List (Nat × SV) → List (Nat × SV)
  | [] => []
  | (k, v) :: r => (k, v.tr f) :: trP f r
theorem mkEnv_tr (f : SV → SV) : ∀ (l : List (Nat × SV)) (i : Nat), (mkEnv l i).tr f = mkEnv (trP f l) i
  | [], i => by simp [mkEnv, trP, SV.tr]
  | (k, v) :: r, i => by
    simp only [mkEnv, trP]
    split
    · rfl
    · exact mkEnv_tr f r i
theorem freezeE_mk (n : Nat) (o : Option Ob) : freezeE n o (mkEnv l) = mkEnv (trP (fz n o) l) := by funext i; exact mkEnv_tr _ _ _
def trO (n : Nat) (q : Option Ob) : List (Nat × Option Ob) → List (Nat × Option Ob)
  | [] => []
  | (k, o) :: r => (k, if k = n then none else o.map (Ob.tr (fz n q))) :: trO n q r
theorem freezeO_mk (n : Nat) (q : Option Ob) : ∀ m : List (Nat × Option Ob), freezeO n q (mkO m) = mkO (trO n q m)
  | [] => by funext i; simp [freezeO, mkO, trO]
  | (k, o) :: r => by
    funext i
    have ih := congrFun (freezeO_mk n q r) i
    simp only [freezeO, mkO, trO] at ih ⊢
    by_cases h : i = k
    · subst h; simp
    · simp only [if_neg h]; exact ih

theorem fzall_nil (s : Env × Objs) : freezeAll [] s = s := rfl
theorem fzall_mk (n : Nat) (ns : List Nat) : freezeAll (n :: ns) (mkEnv l, mkO m) = freezeAll ns (mkEnv (trP (fz n (mkO m n)) l), mkO (trO n (mkO m n) m)) := by
  simp only [freezeAll, freezeE_mk, freezeO_mk]
theorem setl_nil : setL [] O = O := rfl
theorem setl_cons (n : Nat) (o : Ob) (r : List (Nat × Ob)) : setL ((n, o) :: r) O = setO n (some o) (setL r O) := rfl
theorem finA_gen {rs : List RV} {ext ext' fs : List Ob} {r : SV} (own : List Nat) {r0 : SV} {out : Out} (h0 : match out with | .exit _ => False | _ => True) (h1 : retA O σ rs = some r0) (h2 : r0.tr (nmF own) = r) (h3 : own.map O = fs.map some) (h4 : own.Nodup) (h5 : (own.all fun n => decide (n < 1000000)) = true) (h6 : fs.all plainOb = true)
    (h7 : (List.range ext.length).map (fun i => O (X i)) = ext'.map some) (h8 : (ext'.all fun o => o.refs.all fun n => decide (n < 2000000)) = true) : finA rs ext r ext' fs out σ O := by
  have hl : ext'.length = ext.length := by have := congrArg List.length h7; simpa using this.symm
  refine ⟨h0, own, r0, h1, h2, h3, h4, h5, h6, hl, fun i hi => ?_, h8⟩
  have := congrArg (fun l => l[i]?) h7
  simp only [List.getElem?_map] at this
  simpa [hi, show i < ext'.length by omega] using this
theorem resX_mk : ∀ (ext : List Ob), ext.length ≤ 1000 → resO ext [] = mkO (ext.zipIdx.map fun p => (X p.2, some p.1)) := by
  intro ext he
  have key : ∀ (ext : List Ob) (j n : Nat), mkO ((ext.zipIdx j).map fun p => (X p.2, some p.1)) n = if X j ≤ n ∧ n < X (j + ext.length) then ext[n - X j]? else none := by
    intro ext
    induction ext with
    | nil => intro j n; simp only [List.zipIdx_nil, List.map_nil, mkO, List.length_nil]; rw [if_neg (by simp only [X]; omega)]
    | cons e r ih =>
      intro j n
      simp only [List.zipIdx_cons, List.map_cons, mkO, List.length_cons]
      by_cases h : n = X j
      · rw [if_pos h, if_pos (by simp only [X] at h ⊢; omega), h]; simp
      · rw [if_neg h, ih]
        by_cases h2 : X (j + 1) ≤ n ∧ n < X (j + 1 + r.length)
        · rw [if_pos h2, if_pos (by simp only [X] at h2 ⊢; omega)]
          have : n - X j = (n - X (j + 1)) + 1 := by simp only [X] at h2 ⊢; omega
          rw [this]; simp
        · rw [if_neg h2, if_neg (by simp only [X] at h h2 ⊢; omega)]
  funext n
  rw [key ext 0 n]
  unfold resO
  by_cases h : X 0 ≤ n ∧ n < X (0 + ext.length)
  · rw [if_pos h]
    simp only [X] at h ⊢
    rw [if_neg (by omega), if_pos (by omega)]
  · rw [if_neg h]
    simp only [X] at h
    split
    · simp
    · split
      · rw [List.getElem?_eq_none]; omega
      · rfl

theorem finA_val {rs : List RV} {r : SV} (h : retA O σ rs = some r) (hr : r.tr (nmF []) = r) : finA rs [] r [] [] .ret σ O :=
  ⟨trivial, [], r, h, hr, rfl, by simp, rfl, rfl, rfl, fun i hi => by simp at hi, rfl⟩
theorem finA_valn {rs : List RV} {r : SV} (h : retA O σ rs = some r) (hr : r.tr (nmF []) = r) : finA rs [] r [] [] .norm σ O :=
  ⟨trivial, [], r, h, hr, rfl, by simp, rfl, rfl, rfl, fun i hi => by simp at hi, rfl⟩

theorem argE_mk (args : List SV) : argE args = mkEnv (args.zipIdx.map fun p => (p.2, p.1)) := by
  have key : ∀ (args : List SV) (j i : Nat), mkEnv ((args.zipIdx j).map fun p => (p.2, p.1)) (j + i) = args.getD i .junk := by
    intro args
    induction args with
    | nil => intro j i; rfl
    | cons a r ih =>
      intro j i
      simp only [List.zipIdx_cons, List.map_cons, mkEnv]
      cases i with
      | zero => simp
      | succ i =>
        rw [if_neg (by omega)]
        have := ih (j + 1) i
        rw [show j + (i + 1) = j + 1 + i by omega, this]
        simp
  funext i
  have := key args 0 i
  rw [Nat.zero_add] at this
  rw [this]; rfl

/-- A function, its arguments laid in its first slots. -/
theorem Is.go {P : Program} {f : FuncId} {af : AFn} (h : Is P f af) (hm : P.follows .mixedOrders = true) (hΓ : GS P Γ) (ks os : List Nat) {args : List SV} {r : SV} {fs : List Ob} (ha : args.length ≤ af.np)
    (hrun : aw Γ ks os af.body (finA af.res [] r [] fs) (mkEnv (args.zipIdx.map fun p => (p.2, p.1))) (mkO [])) : PC P f args [] r [] fs :=
  h.pc hm hΓ ks os ha (by rw [argE_mk, resO_nil']; exact hrun)
/-- A function with objects lent to it. -/
theorem Is.goX {P : Program} {f : FuncId} {af : AFn} (h : Is P f af) (hm : P.follows .mixedOrders = true) (hΓ : GS P Γ) (ks os : List Nat) {args : List SV} {r : SV} {ext ext' fs : List Ob} (ha : args.length ≤ af.np) (he : ext.length ≤ 1000)
    (hrun : aw Γ ks os af.body (finA af.res ext r ext' fs) (mkEnv (args.zipIdx.map fun p => (p.2, p.1))) (mkO (ext.zipIdx.map fun p => (X p.2, some p.1)))) : PC P f args ext r ext' fs :=
  h.pcX hm hΓ ks os ha he (by rw [argE_mk, resX_mk ext he]; exact hrun)
end
end Go.Proofs.YtpobnchalcokoaaDoor.Pam
