/- A part of the proof that stands in this folder: a small machine whose steps are shown to be the steps of the model. No condition of its own. -/
import Derived.Test.YtmjkdmlndbfdjaaPamU
set_option linter.unusedVariables false
set_option linter.unusedSimpArgs false
namespace Go.Proofs.Ytmjkdmlndbfdjaa.Pam
open Go

/-! the machine's steps, as equations to rewrite by -/
section
variable {Γ : Gam} {ks os : List Nat} {σ : Env} {O : Objs} {l : List (Nat × SV)} {m : List (Nat × Option Ob)} {K : Env → Objs → Prop} {Q : Out → Env → Objs → Prop}

theorem put_mk (d : Nat) (v : SV) : put (some d) v (mkEnv l) = mkEnv ((d, v) :: l) := by funext i; rfl
theorem put_no (v : SV) : put none v σ = σ := rfl
theorem mk_hit (k : Nat) (v : SV) : mkEnv ((k, v) :: l) k = v := by simp [mkEnv]
theorem mk_miss {k i : Nat} (v : SV) (h : i ≠ k) : mkEnv ((k, v) :: l) i = mkEnv l i := by simp [mkEnv, h]
theorem mkE_cons (k i : Nat) (v : SV) : mkEnv ((k, v) :: l) i = if i = k then v else mkEnv l i := rfl
theorem mkO_cons (k i : Nat) (o : Option Ob) : mkO ((k, o) :: m) i = if i = k then o else mkO m i := rfl
theorem mk_nil (i : Nat) : mkEnv [] i = .junk := rfl
theorem mkO_hit (k : Nat) (o : Option Ob) : mkO ((k, o) :: m) k = o := by simp [mkO]
theorem mkO_miss {k i : Nat} (o : Option Ob) (h : i ≠ k) : mkO ((k, o) :: m) i = mkO m i := by simp [mkO, h]
theorem mkO_nil (i : Nat) : mkO [] i = none := rfl
theorem setO_mk (k : Nat) (o : Option Ob) : setO k o (mkO m) = mkO ((k, o) :: m) := by funext i; rfl
theorem ev_t (n : Nat) : ev σ (.t n) = σ n := rfl
theorem ev_c (v : PV) : ev σ (.c v) = .p v := rfl
theorem ev_f (g : FuncId) : ev σ (.f g) = .p (.fn g [] []) := rfl

theorem run_nil : runOps Γ [] σ O K = K σ O := rfl
/-! What comes behind is handed on as an instance, which 'simp' leaves alone: else it would walk the rest of the code before its time. -/
class KD where
  k : SV → Prop
class KW where
  k : SV → Env → Objs → Prop
class KN where
  k : Env → Objs → Prop
class KP where
  p : Prop
class KQ where
  p : Prop
/-- What comes behind a value. -/
def bindD (x : Option SV) [c : KD] : Prop := match x with
  | some v => c.k v
  | none => False
def bindW (x : Option (SV × Env × Objs)) [c : KW] : Prop := match x with
  | some (v, σ, O) => c.k v σ O
  | none => False
theorem bindD_some {v : SV} {k : SV → Prop} : @bindD (some v) ⟨k⟩ = k v := rfl
theorem bindW_some {v : SV} {k : SV → Env → Objs → Prop} : @bindW (some (v, σ, O)) ⟨k⟩ = k v σ O := rfl
theorem run_d {dst : Option Nat} {op : DOp} {r : List RO} : runOps Γ (⟨dst, none, .d op⟩ :: r) σ O K = @bindD (stepD Γ O (ev σ) op) ⟨fun v => runOps Γ r (put dst v σ) O K⟩ := by
  simp only [runOps, wantA, stepA, bindD]
  cases stepD Γ O (ev σ) op <;> simp
theorem run_w {dst : Option Nat} {op : WOp} {r : List RO} : runOps Γ (⟨dst, none, .w op⟩ :: r) σ O K = @bindW (stepW Γ dst σ O op) ⟨fun v σ' O' => runOps Γ r (put dst v σ') O' K⟩ := by
  simp only [runOps, wantA, stepA, bindW]
  cases h : stepW Γ dst σ O op with
  | none => simp
  | some p => obtain ⟨v, σ', O'⟩ := p; simp
/-- A guarded operation. -/
def gd (v : SV) (b : Bool) [A : KP] [B : KQ] : Prop := match v with
  | .p (.bool t) => if t = b then A.p else B.p
  | .un => B.p
  | _ => False
theorem gd_b {t b : Bool} {A B : Prop} : @gd (.p (.bool t)) b ⟨A⟩ ⟨B⟩ = if t = b then A else B := rfl
theorem gd_un {b : Bool} {A B : Prop} : @gd .un b ⟨A⟩ ⟨B⟩ = B := rfl
theorem run_g {dst : Option Nat} {g : Nat} {b : Bool} {op : AOp} {r : List RO} : runOps Γ (⟨dst, some (g, b), op⟩ :: r) σ O K = @gd (σ g) b ⟨runOps Γ (⟨dst, none, op⟩ :: r) σ O K⟩ ⟨runOps Γ r (put dst .un σ) O K⟩ := by
  unfold gd
  simp only [runOps, wantA]
  cases h : σ g with
  | p v =>
    cases v with
    | bool t => cases t <;> cases b <;> simp [stepA]
    | _ => simp
  | _ => simp

theorem rund_nil {K : Env → Prop} : runD Γ [] O [] σ K = K σ := rfl
theorem rund_d {dst : Option Nat} {op : DOp} {r : List RO} {K : Env → Prop} : runD Γ [] O (⟨dst, none, .d op⟩ :: r) σ K = @bindD (stepD Γ O (ev σ) op) ⟨fun v => runD Γ [] O r (put dst v σ) K⟩ := by
  simp only [runD, wantA, bindD]
  cases stepD Γ O (ev σ) op <;> simp
theorem rund_g {dst : Option Nat} {g : Nat} {b : Bool} {op : AOp} {r : List RO} {K : Env → Prop} : runD Γ [] O (⟨dst, some (g, b), op⟩ :: r) σ K = @gd (σ g) b ⟨runD Γ [] O (⟨dst, none, op⟩ :: r) σ K⟩ ⟨runD Γ [] O r (put dst .un σ) K⟩ := by
  unfold gd
  simp only [runD, wantA]
  cases h : σ g with
  | p v =>
    cases v with
    | bool t => cases t <;> cases b <;> simp
    | _ => simp
  | _ => simp

/-- The slots and objects that are kept, told anew. -/
def nrm (σ : Env) (O : Objs) [k : KN] : Prop := k.k σ O
theorem nrm_mk {k : Env → Objs → Prop} : @nrm (mkEnv l) (mkO m) ⟨k⟩ = k (mkEnv l) (mkO m) := rfl
theorem aw_reg {ops : List RO} : aw Γ ks os (.reg ops) Q σ O = runOps Γ ops σ O fun σ' O' => @nrm (keepE ks σ') (keepO os O') ⟨Q .norm⟩ := rfl
theorem aw_dreg {b t : List RO} : aw Γ ks os (.dreg [] b t) Q σ O = runD Γ [] O b σ fun σ' => runOps Γ t σ' O fun σ'' O'' => @nrm (keepE ks σ'') (keepO os O'') ⟨Q .norm⟩ := rfl
theorem aw_skip : aw Γ ks os .skip Q σ O = Q .norm σ O := rfl
theorem aw_ret : aw Γ ks os .ret Q σ O = Q .ret σ O := rfl
theorem aw_exit {id : Nat} : aw Γ ks os (.exit id) Q σ O = Q (.exit id) σ O := rfl
theorem aw_seq {a b : AC} : aw Γ ks os (.seq a b) Q σ O = aw Γ ks os a (fun o σ' O' => match o with | .norm => aw Γ ks os b Q σ' O' | o => Q o σ' O') σ O := rfl
theorem aw_block {id : Nat} {b : AC} : aw Γ ks os (.block id b) Q σ O = aw Γ ks os b (fun o σ' O' => match o with | .exit i => (if i = id then Q .norm σ' O' else Q (.exit i) σ' O') | o => Q o σ' O') σ O := rfl
/-- A branch. -/
def br (v : SV) [A : KP] [B : KQ] : Prop := match v with
  | .p (.bool t) => if t = true then A.p else B.p
  | _ => False
theorem br_b {t : Bool} {A B : Prop} : @br (.p (.bool t)) ⟨A⟩ ⟨B⟩ = if t = true then A else B := rfl
theorem aw_cond {c : Od} {a b : AC} : aw Γ ks os (.cond c a b) Q σ O = @br (ev σ c) ⟨aw Γ ks os a Q σ O⟩ ⟨aw Γ ks os b Q σ O⟩ := by
  simp only [aw, br]
  cases h : ev σ c with
  | p v =>
    cases v with
    | bool t => simp
    | _ => simp
  | _ => simp


theorem keepE_mk : keepE ks σ = mkEnv (ks.map fun k => (k, σ k)) := rfl

/-- Giving up the names of a list. -/
def trP (f : SV → SV) : List (Nat × SV) → List (Nat × SV)
  | [] => []
  | (k, v) :: r => (k, v.tr f) :: trP f r
theorem mkEnv_tr (f : SV → SV) : ∀ (l : List (Nat × SV)) (i : Nat), (mkEnv l i).tr f = mkEnv (trP f l) i
  | [], i => by simp [mkEnv, trP, SV.tr]
  | (k, v) :: r, i => by
    simp only [mkEnv, trP]
    split
    · rfl
    · exact mkEnv_tr f r i
theorem freezeE_mk (n : Nat) (o : Option Ob) : freezeE n o (mkEnv l) = mkEnv (trP (fz n o) l) := by funext i; exact mkEnv_tr _ _ _
def trO (n : Nat) (q : Option Ob) : List (Nat × Option Ob) → List (Nat × Option Ob)
  | [] => []
  | (k, o) :: r => (k, if k = n then none else o.map (Ob.tr (fz n q))) :: trO n q r
theorem freezeO_mk (n : Nat) (q : Option Ob) : ∀ m : List (Nat × Option Ob), freezeO n q (mkO m) = mkO (trO n q m)
  | [] => by funext i; simp [freezeO, mkO, trO]
  | (k, o) :: r => by
    funext i
    have ih := congrFun (freezeO_mk n q r) i
    simp only [freezeO, mkO, trO] at ih ⊢
    by_cases h : i = k
    · subst h; simp
    · simp only [if_neg h]; exact ih

theorem finA_val {rs : List RV} {r : SV} (h : retA O σ rs = some r) (hr : r.tr (nmF []) = r) : finA rs [] r [] [] .ret σ O :=
  ⟨trivial, [], r, h, hr, rfl, by simp, rfl, rfl, rfl, fun i hi => by simp at hi, rfl⟩
theorem finA_valn {rs : List RV} {r : SV} (h : retA O σ rs = some r) (hr : r.tr (nmF []) = r) : finA rs [] r [] [] .norm σ O :=
  ⟨trivial, [], r, h, hr, rfl, by simp, rfl, rfl, rfl, fun i hi => by simp at hi, rfl⟩

theorem argE_mk (args : List SV) : argE args = mkEnv (args.zipIdx.map fun p => (p.2, p.1)) := by
  have key : ∀ (args : List SV) (j i : Nat), mkEnv ((args.zipIdx j).map fun p => (p.2, p.1)) (j + i) = args.getD i .junk := by
    intro args
    induction args with
    | nil => intro j i; rfl
    | cons a r ih =>
      intro j i
      simp only [List.zipIdx_cons, List.map_cons, mkEnv]
      cases i with
      | zero => simp
      | succ i =>
        rw [if_neg (by omega)]
        have := ih (j + 1) i
        rw [show j + (i + 1) = j + 1 + i by omega, this]
        simp
  funext i
  have := key args 0 i
  rw [Nat.zero_add] at this
  rw [this]; rfl

/-- A function, its arguments laid in its first slots. -/
theorem Is.go {P : Program} {f : FuncId} {af : AFn} (h : Is P f af) (hm : P.follows .mixedOrders = true) (hΓ : GS P Γ) (ks os : List Nat) {args : List SV} {r : SV} {fs : List Ob} (ha : args.length ≤ af.np)
    (hrun : aw Γ ks os af.body (finA af.res [] r [] fs) (mkEnv (args.zipIdx.map fun p => (p.2, p.1))) (mkO [])) : PC P f args [] r [] fs :=
  h.pc hm hΓ ks os ha (by rw [argE_mk, resO_nil']; exact hrun)
end
end Go.Proofs.Ytmjkdmlndbfdjaa.Pam
