/- A part of the proof that stands in this folder: a small machine whose steps are shown to be the steps of the model, or walks of functions by it. No condition of its own. -/
import Derived.Orders
import Derived.LoopN
import Derived.Below
set_option linter.unusedVariables false
set_option linter.unusedSimpArgs false
namespace Go.Proofs.YtpobnchalcokoaaDoor.Pam
open Go

/-! pure values, slot values, objects -/
inductive PV where
  | bool (b : Bool)
  | int (k : IntKind) (n : Int)
  | str (s : ByteArray)
  | agg (cs : List PV)
  | sl (sz : Nat) (xs : List PV)
  | nilsl
  | cp (cs : List PV)
  | np
  | fn (f : FuncId) (first caps : List PV)
  | nilfn
  | mapv (es : List (PV × PV))
  | nilmap
  /-- A whole list of numbers of its own, apart from A. -/
  | wh (A : Nat → Prop) (xs : List PV)
  /-- A list of numbers, and that A is told. -/
  | li (A : Nat → Prop) (xs : List PV)
  /-- That A is told. -/
  | tok (A : Nat → Prop)
  deriving Inhabited

inductive SV where
  | p (v : PV)
  | ag (cs : List SV)
  | tp (cs : List SV)
  | bx (n off : Nat)
  | ar (n : Nat)
  | sub (n lo hi : Nat)
  | el (n i j : Nat)
  | mp (n : Nat)
  | cl (f : FuncId) (first caps : List SV)
  | un
  | junk
  deriving Inhabited

inductive Ob where
  | box (cs : List SV)
  | arr (sz : Nat) (xs : List PV)
  | map (es : List (PV × PV))
  deriving Inhabited

abbrev Env := Nat → SV
abbrev Objs := Nat → Option Ob

def PV.cells : PV → List PV
  | .agg cs => cs
  | v => [v]
def flat (xs : List PV) : List PV := xs.flatMap PV.cells

def SV.cells : SV → List SV
  | .ag cs => cs
  | .p v => v.cells.map .p
  | v => [v]

mutual
def SV.tr (f : SV → SV) : SV → SV
  | .ag cs => .ag (SV.trL f cs)
  | .tp cs => .tp (SV.trL f cs)
  | .cl g a b => .cl g (SV.trL f a) (SV.trL f b)
  | .p v => .p v
  | .un => .un
  | .junk => .junk
  | v => f v
def SV.trL (f : SV → SV) : List SV → List SV
  | [] => []
  | c :: cs => c.tr f :: SV.trL f cs
end

mutual
def SV.refs : SV → List Nat
  | .ag cs => SV.refsL cs
  | .tp cs => SV.refsL cs
  | .cl _ a b => SV.refsL a ++ SV.refsL b
  | .bx n _ => [n]
  | .ar n => [n]
  | .sub n _ _ => [n]
  | .el n _ _ => [n]
  | .mp n => [n]
  | _ => []
def SV.refsL : List SV → List Nat
  | [] => []
  | c :: cs => c.refs ++ SV.refsL cs
end

def Ob.tr (f : SV → SV) : Ob → Ob
  | .box cs => .box (SV.trL f cs)
  | o => o
def Ob.refs : Ob → List Nat
  | .box cs => SV.refsL cs
  | _ => []

def allP : List SV → Option (List PV)
  | [] => some []
  | .p v :: r => (allP r).map (v :: ·)
  | _ :: _ => none

/-- What a reference to 'n' becomes when 'n' is given up. -/
def fz (n : Nat) (o : Option Ob) : SV → SV
  | .ar m => if m = n then (match o with | some (.arr sz xs) => .p (.sl sz xs) | _ => .junk) else .ar m
  | .sub m lo hi => if m = n then (match o with | some (.arr sz xs) => .p (.sl sz ((xs.drop lo).take (hi - lo))) | _ => .junk) else .sub m lo hi
  | .mp m => if m = n then (match o with | some (.map es) => .p (.mapv es) | _ => .junk) else .mp m
  | .bx m off => if m = n then (match o with | some (.box cs) => (match allP cs with | some vs => .p (.cp (vs.drop off)) | none => .junk) | _ => .junk) else .bx m off
  | .el m i j => if m = n then .junk else .el m i j
  | v => v
def kill (n : Nat) : SV → SV := fz n none

def put (d : Option Nat) (v : SV) (σ : Env) : Env :=
  match d with
  | some d => fun i => if i = d then v else σ i
  | none => σ
def setO (n : Nat) (o : Option Ob) (O : Objs) : Objs := fun m => if m = n then o else O m

def freezeE (n : Nat) (o : Option Ob) (σ : Env) : Env := fun i => (σ i).tr (fz n o)
def freezeO (n : Nat) (o : Option Ob) (O : Objs) : Objs := fun m => if m = n then none else (O m).map (Ob.tr (fz n o))

def mkEnv : List (Nat × SV) → Env
  | [], _ => .junk
  | (k, v) :: r, i => if i = k then v else mkEnv r i
def mkObjs : List (Nat × Ob) → Objs
  | [], _ => none
  | (k, o) :: r, i => if i = k then some o else mkObjs r i
def keepE (ks : List Nat) (σ : Env) : Env := mkEnv (ks.map fun k => (k, σ k))
def keepO : List Nat → Objs → Objs
  | [], _ => fun _ => none
  | k :: ks, O => fun i => if i = k then O k else keepO ks O i

/-! the machine's text -/
inductive Od where
  | t (n : Nat)
  | c (v : PV)
  | f (g : FuncId)
  deriving Inhabited

inductive EK where
  | arith | bool | slice | ptr | arr (n : Nat) | str
  deriving DecidableEq, Inhabited

inductive DOp where
  | mv (x : Od)
  | pick (c a b : Od)
  | build (z : List PV) (parts : List (Nat × Nat × Od))
  | load (ag : Bool) (n : Nat) (a : Od)
  | nilck (x : Od)
  | bin (kd : EK) (op : BinOp) (x y : Od)
  | not (x : Od)
  | neg (x : Od)
  | conv (k : IntKind) (x : Od)
  | mkfn (f : FuncId) (first caps : List Od)
  | slc (sz : Nat) (x : Od) (lo hi : Option Od)
  | slcS (x : Od) (lo hi : Option Od)
  | slcA (n sz : Nat) (x : Od) (lo hi : Option Od)
  | slc3 (x lo hi mx : Od)
  | idxS (x i : Od)
  | convS (x : Od)
  | fa (off : Nat) (x : Od)
  | fld (ag : Bool) (off n : Nat) (x : Od)
  | ia (sz : Nat) (x i : Od)
  | iaA (len sz : Nat) (x i : Od)
  | lookup (z : PV) (ok : Bool) (kn : Option Nat) (m k : Od)
  | extract (x : Od) (i : Nat)
  | call (f : Od) (args : List Od)
  | len (x : Od)
  | lenS (x : Od)
  | max2 (x y : Od)
  | min2 (x y : Od)
  deriving Inhabited

inductive WOp where
  | alloc (z : List PV)
  | box (n : Nat) (x : Od)
  | store (n : Nat) (a x : Od)
  | bslice (sz : Nat) (zs : List PV) (parts : List (Nat × Od))
  | mkslice (sz : Nat) (z : PV) (l : Od)
  | append (sz : Nat) (x y : Od)
  | mkmap
  | mkmapF
  | mapup (kn : Option Nat) (m k v : Od)
  | copy (x y : Od)
  | clear (sz : Nat) (z : PV) (x : Od)
  | allocA (z : List PV)
  | slcF (n : Nat) (x : Od)
  | callL (f : Od) (args : List Od) (lend : List Nat) (own : Nat) (fzs : Bool)
  | bsliceW (tk t : Nat) (sz : Nat) (zs : List PV) (parts : List (Nat × Od))
  deriving Inhabited

inductive AOp where
  | d (o : DOp)
  | w (o : WOp)
  deriving Inhabited

structure RO where
  dst : Option Nat
  guard : Option (Nat × Bool)
  op : AOp
  deriving Inhabited

inductive AC where
  | skip
  | reg (ops : List RO)
  | dreg (pend : List Nat) (body : List (List Nat × RO)) (tail : List RO)
  /-- Light operations that may be done at any time, a chain of others (and which light ones may still wait behind each), the tail. -/
  | creg (li : List RO) (ch : List (RO × List RO)) (tail : List RO)
  | seq (a b : AC)
  | cond (c : Od) (a b : AC)
  | block (id : Nat) (b : AC)
  | loop (b : AC)
  | exit (id : Nat)
  | ret
  deriving Inhabited

/-! the meaning of calls: what a function answers to arguments and to objects that are lent to it: its result, those objects behind it, new objects -/
abbrev Gam := FuncId → List SV → List Ob → Option (SV × List Ob × List Ob)
def X (i : Nat) : Nat := 1000000 + i
def F (i : Nat) : Nat := 2000000 + i

def ev (σ : Env) : Od → SV
  | .t n => σ n
  | .c v => .p v
  | .f g => .p (.fn g [] [])

/-- The elements behind a value of a slice type. -/
def elems (O : Objs) (sz : Nat) : SV → Option (List PV)
  | .p (.sl s xs) => if s = sz then some xs else none
  | .p .nilsl => some []
  | .ar n => match O n with | some (.arr s xs) => if s = sz then some xs else none | _ => none
  | .sub n lo hi => match O n with | some (.arr s xs) => if s = sz then some ((xs.drop lo).take (hi - lo)) else none | _ => none
  | _ => none
def lenA (O : Objs) : SV → Option Nat
  | .p (.sl _ xs) => some xs.length
  | .p .nilsl => some 0
  | .ar n => match O n with | some (.arr _ xs) => some xs.length | _ => none
  | .sub n lo hi => match O n with | some (.arr _ _) => some (hi - lo) | _ => none
  | _ => none

def loadA (O : Objs) (ag : Bool) (n : Nat) : SV → Option SV
  | .p (.cp cs) => if ag then (if n ≤ cs.length then some (.p (.agg (cs.take n))) else none) else (cs[0]?).map .p
  | .bx m off => match O m with
    | some (.box cs) => if ag then (if off + n ≤ cs.length then some (.ag ((cs.drop off).take n)) else none) else cs[off]?
    | _ => none
  | .el m i j => match O m with
    | some (.arr sz xs) => match xs[i]? with
      | some e => if ag then (if j + n ≤ e.cells.length then some (.p (.agg ((e.cells.drop j).take n))) else if sz = 1 ∧ j = 0 ∧ i + n ≤ xs.length then some (.p (.agg (((flat xs).drop i).take n))) else none) else ((e.cells)[j]?).map .p
      | none => none
    | _ => none
  | _ => none

def natOf : SV → Option Nat
  | .p (.int _ n) => if 0 ≤ n then some n.toNat else none
  | _ => none

def bitA (op : BinOp) (k : IntKind) (x y : Int) : Option Int :=
  let a := BitVec.ofInt k.bits x
  let b := BitVec.ofInt k.bits y
  match op with
  | .and => some (k.wrap (a &&& b).toNat)
  | .or => some (k.wrap (a ||| b).toNat)
  | .xor => some (k.wrap (a ^^^ b).toNat)
  | .andNot => some (k.wrap (a &&& ~~~b).toNat)
  | _ => none

def binI (op : BinOp) (k : IntKind) (a b : Int) : Option PV :=
  match op with
  | .add => some (.int k (k.wrap (a + b)))
  | .sub => some (.int k (k.wrap (a - b)))
  | .mul => some (.int k (k.wrap (a * b)))
  | .quo => if b = 0 then none else some (.int k (k.wrap (a.tdiv b)))
  | .rem => if b = 0 then none else some (.int k (a.tmod b))
  | .eql => some (.bool (a == b))
  | .neq => some (.bool (a != b))
  | .lss => some (.bool (a < b))
  | .leq => some (.bool (a ≤ b))
  | .gtr => some (.bool (a > b))
  | .geq => some (.bool (a ≥ b))
  | .shl => if b < 0 then none else some (.int k (k.wrap (a * 2 ^ (min b.toNat k.bits))))
  | .shr => if b < 0 then none else some (.int k (a.fdiv (2 ^ (min b.toNat k.bits))))
  | op => (bitA op k a b).map (.int k)

/-- A shift by a number of another kind. -/
def shfI (op : BinOp) (k : IntKind) (a b : Int) : Option PV :=
  match op with
  | .shl => binI .shl k a b
  | .shr => binI .shr k a b
  | _ => none

def eqOut (op : BinOp) (b : Bool) : Option PV :=
  match op with
  | .eql => some (.bool b)
  | .neq => some (.bool !b)
  | _ => none
def isSl (O : Objs) : SV → Bool
  | .p (.sl _ _) => true
  | .ar n => (O n).isSome
  | .sub n _ _ => (O n).isSome
  | _ => false
def isPt (O : Objs) : SV → Bool
  | .p (.cp _) => true
  | .bx n _ => (O n).isSome
  | _ => false
def elemOf (sz : Nat) : SV → Option PV
  | .p v => if v.cells.length = sz then some v else none
  | .ag cs => match allP cs with | some vs => if vs.length = sz then some (.agg vs) else none | none => none
  | _ => none

def scalEq : PV → PV → Option Bool
  | .int k a, .int k' b => if k = k' then some (a == b) else none
  | .bool a, .bool b => some (a == b)
  | .str a, .str b => some (a.toList == b.toList)
  | _, _ => none
def scalEqL : List PV → List PV → Option Bool
  | [], [] => some true
  | a :: as, b :: bs => match scalEq a b with
    | some true => scalEqL as bs
    | some false => some false
    | none => none
  | _, _ => none
def keyEq : PV → PV → Option Bool
  | .agg a, .agg b => scalEqL a b
  | a, b => scalEq a b
def PV.isInt : PV → Bool
  | .int _ _ => true
  | _ => false
def aggN (n : Nat) : PV → Bool
  | .agg cs => cs.length == n && cs.all PV.isInt
  | _ => false
/-- A key: an int, or an array of ints of a told length. -/
def keyA (kn : Option Nat) (v : SV) : Option PV :=
  match kn with
  | none => match v with
    | .p (.int k a) => some (.int k a)
    | _ => none
  | some n => match elemOf n v with
    | some (.agg cs) => if cs.all PV.isInt = true then some (.agg cs) else none
    | _ => none
def keysOk (kn : Option Nat) (es : List (PV × PV)) : Bool :=
  match kn with
  | none => true
  | some n => es.all fun p => aggN n p.1
/-- A map with a key set. -/
def mset (k v : PV) : List (PV × PV) → Option (List (PV × PV))
  | [] => some [(k, v)]
  | (k', v') :: r => match keyEq k k' with
    | some true => some ((k, v) :: r)
    | some false => (mset k v r).map ((k', v') :: ·)
    | none => none
def PV.isCell : PV → Bool
  | .agg _ => false
  | .tok _ => false
  | _ => true
/-- Strings. -/
def binS (op : BinOp) (a b : ByteArray) : Option PV := match op with
  | .add => if ((a.size + b.size : Nat) : Int) ≤ 9223372036854775807 then some (.str (a ++ b)) else none
  | .eql => some (.bool (a.toList == b.toList))
  | .neq => some (.bool !(a.toList == b.toList))
  | .lss => some (.bool (Op.bytesLess a.toList b.toList))
  | _ => none
/-- The string of a row of bytes. -/
def pushB (ns : List Int) : ByteArray := ns.foldl (fun r n => r.push (UInt8.ofNat n.toNat)) ByteArray.empty
def u8sOf : List PV → Option (List Int)
  | [] => some []
  | .int .u8 n :: r => (u8sOf r).map (n :: ·)
  | _ :: _ => none
def binA (O : Objs) (kd : EK) (op : BinOp) (x y : SV) : Option PV :=
  match kd with
  | .arith => match x, y with
    | .p (.int k a), .p (.int k' b) => if k = k' then binI op k a b else shfI op k a b
    | _, _ => none
  | .bool => match x, y with
    | .p (.bool a), .p (.bool b) => eqOut op (a == b)
    | _, _ => none
  | .str => match x, y with
    | .p (.str a), .p (.str b) => binS op a b
    | _, _ => none
  | .slice => match y with
    | .p .nilsl => match x with
      | .p .nilsl => eqOut op true
      | x => if isSl O x then eqOut op false else none
    | _ => none
  | .ptr => match y with
    | .p .np => match x with
      | .p .np => eqOut op true
      | x => if isPt O x then eqOut op false else none
    | _ => none
  | .arr n => match keyA (some n) x, keyA (some n) y with
    | some a, some b => match keyEq a b with
      | some r => eqOut op r
      | none => none
    | _, _ => none

def putCells (cs : List SV) (off : Nat) : List SV → List SV
  | [] => cs
  | v :: r => putCells (cs.set off v) (off + 1) r

/-- The cells of a value whose size is known. -/
def cellsA (O : Objs) : SV → Option (List SV)
  | .ag cs => some cs
  | .p v => some (v.cells.map .p)
  | .cl f a b => some [.cl f a b]
  | .bx n i => if (O n).isSome then some [.bx n i] else none
  | .ar n => if (O n).isSome then some [.ar n] else none
  | .sub n i j => if (O n).isSome then some [.sub n i j] else none
  | .el n i j => if (O n).isSome then some [.el n i j] else none
  | .mp n => if (O n).isSome then some [.mp n] else none
  | _ => none
/-- A cell whose value can be stored. -/
def okCell (O : Objs) : SV → Bool
  | .p (.agg _) => false
  | .p (.tok _) => false
  | .p _ => true
  | .cl _ _ _ => true
  | .bx n _ | .ar n | .sub n _ _ | .el n _ _ | .mp n => (O n).isSome
  | _ => false

def buildA (O : Objs) (ρ : Od → SV) : List (Nat × Nat × Od) → List SV → Option (List SV)
  | [], cs => some cs
  | (off, n, x) :: r, cs => match cellsA O (ρ x) with
    | some vs => if vs.length = n ∧ off + n ≤ cs.length then buildA O ρ r (putCells cs off vs) else none
    | none => none

/-- 'some (some v)': the value of a key; 'some none': the key is not there. -/
def look (k : PV) : List (PV × PV) → Option (Option PV)
  | [] => some none
  | (k', v) :: r => match keyEq k k' with
    | some true => some (some v)
    | some false => look k r
    | none => none

def esOf (O : Objs) : SV → Option (List (PV × PV))
  | .p (.mapv es) => some es
  | .p .nilmap => some []
  | .mp n => match O n with | some (.map es) => some es | _ => none
  | _ => none
def lookA (O : Objs) (z : PV) (ok : Bool) (kn : Option Nat) (m k : SV) : Option SV :=
  match keyA kn k, esOf O m with
  | some k, some es => if keysOk kn es = true then (match look k es with
    | some (some v) => some (if ok then .tp [.p v, .p (.bool true)] else .p v)
    | some none => some (if ok then .tp [.p z, .p (.bool false)] else .p z)
    | none => none) else none
  | _, _ => none

/-- A value read off, to be handed on: what it leads to is told. -/
def snap (O : Objs) : Nat → SV → Option PV
  | _, .p v => some v
  | 0, _ => none
  | k + 1, .ag cs => (cs.mapM (snap O k)).map .agg
  | k + 1, .cl f a b => do pure (.fn f (← a.mapM (snap O k)) (← b.mapM (snap O k)))
  | k + 1, .bx n off => match O n with
    | some (.box cs) => ((cs.drop off).mapM (snap O k)).map .cp
    | _ => none
  | _ + 1, .ar n => match O n with | some (.arr sz xs) => some (.sl sz xs) | _ => none
  | _ + 1, .sub n lo hi => match O n with | some (.arr sz xs) => some (.sl sz ((xs.drop lo).take (hi - lo))) | _ => none
  | _ + 1, .mp n => match O n with | some (.map es) => some (.mapv es) | _ => none
  | _ + 1, .el n i j => match O n with
    | some (.arr _ xs) => (xs[i]?).map fun e => .cp (e.cells.drop j)
    | _ => none
  | _ + 1, _ => none

-- Values that lead to nothing in memory.
mutual
def PV.scal : PV → Bool
  | .bool _ | .int _ _ | .str _ | .nilsl | .np | .nilfn | .nilmap => true
  | .agg cs => PV.scalL cs
  | .sl _ _ | .cp _ | .fn _ _ _ | .mapv _ | .wh _ _ | .li _ _ | .tok _ => false
def PV.scalL : List PV → Bool
  | [] => true
  | c :: cs => c.scal && PV.scalL cs
end

/-- The objects that are lent (named from 'X 0' on) and those that are new (from 'F 0' on). -/
def resO (ext fs : List Ob) : Objs := fun n => if 2000000 ≤ n then fs[n - 2000000]? else if 1000000 ≤ n then ext[n - 1000000]? else none
/-- A lent object that has been given away. -/
def gone : Ob → Bool
  | .box [] => true
  | _ => false
def liveO (o : Option Ob) : Option Ob := match o with
  | some o => if gone o = true then none else some o
  | none => none
/-- What stands there behind a call: what has been given away does not. -/
def resG (ext fs : List Ob) : Objs := fun n => if 2000000 ≤ n then fs[n - 2000000]? else if 1000000 ≤ n then liveO ext[n - 1000000]? else none
theorem resG_nil (fs : List Ob) : resG [] fs = resO [] fs := by
  funext n
  simp only [resG, resO, List.getElem?_nil, liveO]
theorem resG_or (ext fs : List Ob) (n : Nat) : resG ext fs n = resO ext fs n ∨ resG ext fs n = none := by
  unfold resG resO
  split
  · exact .inl rfl
  · split
    · cases ext[n - 1000000]? with
      | none => exact .inl rfl
      | some o =>
        simp only [liveO]
        split
        · exact .inr rfl
        · exact .inl rfl
    · exact .inl rfl
/-- All references given up: what they lead to is told as a value. -/
def fzAll (O : Objs) : SV → SV
  | .ar m => match O m with | some (.arr sz xs) => .p (.sl sz xs) | _ => .junk
  | .sub m lo hi => match O m with | some (.arr sz xs) => .p (.sl sz ((xs.drop lo).take (hi - lo))) | _ => .junk
  | .mp m => match O m with | some (.map es) => .p (.mapv es) | _ => .junk
  | .bx m off => match O m with | some (.box cs) => (match allP cs with | some vs => .p (.cp (vs.drop off)) | none => .junk) | _ => .junk
  | _ => .junk
def thaw (fs : List Ob) (r : SV) : SV := r.tr (fzAll (resO [] fs))

mutual
def SV.scal : SV → Bool
  | .p v => v.scal
  | .ag cs => SV.scalL cs
  | .tp cs => SV.scalL cs
  | .bx _ _ | .ar _ | .sub _ _ _ | .el _ _ _ | .mp _ => true
  | .un | .junk => true
  | .cl _ a b => SV.scalL a && SV.scalL b
def SV.scalL : List SV → Bool
  | [] => true
  | c :: cs => c.scal && SV.scalL cs
end
def Ob.scal : Ob → Bool
  | .box cs => SV.scalL cs
  | .arr _ xs => xs.all PV.scal
  | .map es => es.all fun e => e.1.scal && e.2.scal
def callee : SV → Option (FuncId × List SV × List SV)
  | .p (.fn g a b) => some (g, a.map .p, b.map .p)
  | .cl g a b => some (g, a, b)
  | _ => none

def loA (ρ : Od → SV) : Option Od → Option Nat
  | none => some 0
  | some l => natOf (ρ l)
def hiA (ρ : Od → SV) (n : Option Nat) : Option Od → Option Nat
  | none => n
  | some h => natOf (ρ h)

def stepD (Γ : Gam) (O : Objs) (ρ : Od → SV) : DOp → Option SV
  | .mv x => some (ρ x)
  | .pick c a b => match ρ c with | .p (.bool t) => some (if t then ρ a else ρ b) | _ => none
  | .build z parts => (buildA O ρ parts (z.map .p)).map .ag
  | .load ag n a => loadA O ag n (ρ a)
  | .nilck x => match ρ x with
    | .bx n off => if (O n).isSome then some (.bx n off) else none
    | .p (.cp cs) => some (.p (.cp cs))
    | .p (.fn f a b) => some (.p (.fn f a b))
    | .cl f a b => some (.cl f a b)
    | _ => none
  | .bin kd op x y => (binA O kd op (ρ x) (ρ y)).map .p
  | .not x => match ρ x with | .p (.bool b) => some (.p (.bool !b)) | _ => none
  | .neg x => match ρ x with | .p (.int k n) => some (.p (.int k (k.wrap (-n)))) | _ => none
  | .conv k x => match ρ x with | .p (.int _ n) => some (.p (.int k (k.wrap n))) | _ => none
  | .mkfn f a b => some (.cl f (a.map ρ) (b.map ρ))
  | .slc sz x lo hi =>
    match loA ρ lo, hiA ρ (lenA O (ρ x)) hi, lenA O (ρ x) with
    | some l, some h, some n => if l ≤ h ∧ h ≤ n then (match ρ x with
      | .p (.sl s xs) => if s = sz then some (.p (.sl sz ((xs.drop l).take (h - l)))) else none
      | .p .nilsl => some (.p .nilsl)
      | .ar m => match O m with | some (.arr s _) => if s = sz then some (.sub m l h) else none | _ => none
      | .sub m a _ => match O m with | some (.arr s _) => if s = sz then some (.sub m (a + l) (a + h)) else none | _ => none
      | _ => none) else (match ρ x with
      | .sub m a _ => match O m with | some (.arr s xs) => if s = sz ∧ l ≤ h ∧ a + h ≤ xs.length then some (.sub m (a + l) (a + h)) else none | _ => none
      | _ => none)
    | _, _, _ => none
  | .idxS x i => match ρ x, natOf (ρ i) with
    | .p (.str s), some n => match s[n]? with
      | some b => some (.p (.int .u8 (b.toNat : Int)))
      | none => none
    | _, _ => none
  | .convS x => match ρ x with
    | .ar m => match O m with
      | some (.arr 1 xs) => (u8sOf xs).map fun ns => .p (.str (pushB ns))
      | _ => none
    | _ => none
  | .slc3 x lo hi mx => match natOf (ρ lo), natOf (ρ hi), natOf (ρ mx), lenA O (ρ x) with
    | some l, some h, some k, some n => if l ≤ h ∧ h ≤ k ∧ k ≤ n then some .junk else none
    | _, _, _, _ => none
  | .slcS x lo hi =>
    match ρ x with
    | .p (.str s) => match loA ρ lo, hiA ρ (some s.size) hi with
      | some l, some h => if l ≤ h ∧ h ≤ s.size then some (.p (.str (s.extract l h))) else none
      | _, _ => none
    | _ => none
  | .slcA n sz x lo hi =>
    match loA ρ lo, hiA ρ (some n) hi with
    | some l, some h => if l ≤ h ∧ h ≤ n ∧ sz = 1 then (match ρ x with
      | .p (.cp cs) => if n ≤ cs.length ∧ cs.all PV.isCell = true then some (.p (.sl 1 ((cs.drop l).take (h - l)))) else none
      | .el m 0 0 => match O m with
        | some (.arr s xs) => if s = 1 ∧ n = xs.length then some (.sub m l h) else none
        | _ => none
      | _ => none) else none
    | _, _ => none
  | .fa off x => match ρ x with
    | .bx n o => if (O n).isSome then some (.bx n (o + off)) else none
    | .p (.cp cs) => if off ≤ cs.length then some (.p (.cp (cs.drop off))) else none
    | .el n i j => if (O n).isSome then some (.el n i (j + off)) else none
    | _ => none
  | .fld ag off n x => match ρ x with
    | .ag cs => if ag then (if off + n ≤ cs.length then some (.ag ((cs.drop off).take n)) else none) else cs[off]?
    | .p (.agg cs) => if ag then (if off + n ≤ cs.length then some (.p (.agg ((cs.drop off).take n))) else none) else (cs[off]?).map .p
    | _ => none
  | .ia sz x i => match natOf (ρ i) with
    | some i => match ρ x with
      | .ar m => match O m with
        | some (.arr s xs) => if s = sz ∧ i < xs.length then some (.el m i 0) else none
        | _ => none
      | .sub m lo hi => match O m with
        | some (.arr s xs) => if s = sz ∧ lo + i < hi ∧ hi ≤ xs.length then some (.el m (lo + i) 0) else none
        | _ => none
      | .p (.sl s xs) => if s = sz then (xs[i]?).map fun e => .p (.cp e.cells) else none
      | _ => none
    | none => none
  | .iaA len sz x i => match natOf (ρ i) with
    | some i => if i < len then (match ρ x with
      | .bx n o => if (O n).isSome then some (.bx n (o + i * sz)) else none
      | .el n e o => if (O n).isSome then some (.el n e (o + i * sz)) else none
      | .p (.cp cs) => if i * sz ≤ cs.length then some (.p (.cp (cs.drop (i * sz)))) else none
      | _ => none) else none
    | none => none
  | .lookup z ok kn m k => lookA O z ok kn (ρ m) (ρ k)
  | .extract x i => match ρ x with | .tp cs => cs[i]? | _ => none
  | .call f args => match callee (ρ f) with
    | some (g, a, b) => match (a ++ args.map ρ ++ b).mapM (snap O 4) with
      | some vs => match Γ g (vs.map .p) [] with
        | some (r, [], fs) => if SV.refsL (a ++ args.map ρ ++ b) = [] ∨ (r.scal && fs.all Ob.scal) = true then some (thaw fs r) else none
        | _ => none
      | none => none
    | none => none
  | .len x => (lenA O (ρ x)).map fun n => .p (.int .i64 n)
  | .lenS x => match ρ x with | .p (.str s) => some (.p (.int .i64 s.size)) | _ => none
  | .max2 x y => match ρ x, ρ y with | .p (.int k a), .p (.int k' b) => if k = k' then some (.p (.int k (if b > a then b else a))) else none | _, _ => none
  | .min2 x y => match ρ x, ρ y with | .p (.int k a), .p (.int k' b) => if k = k' then some (.p (.int k (if b < a then b else a))) else none | _, _ => none

def freezeAll : List Nat → Env × Objs → Env × Objs
  | [], s => s
  | n :: ns, (σ, O) => freezeAll ns (freezeE n (O n) σ, freezeO n (O n) O)

def roomA : Nat := 4294967296

/-- A new object at 'd'; whatever led to an elder one is given up. -/
def newA (d : Nat) (o : Ob) (v : SV) (σ : Env) (O : Objs) : SV × Env × Objs :=
  (v, freezeE d (O d) σ, setO d (some (o.tr (fz d (O d)))) (freezeO d (O d) O))

def partsA (ρ : Od → SV) (sz : Nat) : List (Nat × Od) → List PV → Option (List PV)
  | [], xs => some xs
  | (i, x) :: r, xs => match elemOf sz (ρ x) with
    | some v => if i < xs.length then partsA ρ sz r (xs.set i v) else none
    | none => none

def putPV (cs : List PV) (off : Nat) : List PV → List PV
  | [] => cs
  | v :: r => putPV (cs.set off v) (off + 1) r

/-! names -/
def NM (d j : Nat) : Nat := d + 50000 * j
def nms (d own : Nat) : List Nat := (List.range own).map (NM d)
def nmBy (ν : Nat → Option Nat) : SV → SV
  | .ar m => match ν m with | some k => .ar k | none => .junk
  | .sub m lo hi => match ν m with | some k => .sub k lo hi | none => .junk
  | .bx m o => match ν m with | some k => .bx k o | none => .junk
  | .el m i j => match ν m with | some k => .el k i j | none => .junk
  | .mp m => match ν m with | some k => .mp k | none => .junk
  | v => v
/-- The name of a lent object for the callee; the names of the callee's objects for the caller. -/
def toX (le : List Nat) (m : Nat) : Option Nat := (le.findIdx? (· == m)).map X
def nmC (d : Nat) (le : List Nat) (nf m : Nat) : Option Nat := if 2000000 ≤ m then (if m - 2000000 < nf then some (NM d (m - 2000000)) else none) else if 1000000 ≤ m then le[m - 1000000]? else none
def plainOb : Ob → Bool
  | .box cs => (SV.refsL cs).isEmpty
  | _ => true
def likeB : Ob → Ob → Bool
  | .box a, .box b => a.length == b.length && !b.isEmpty
  | .arr sz xs, .arr sz' xs' => sz == sz' && xs.length == xs'.length
  | .map _, .map _ => true
  | _, _ => false
def likeL : List Ob → List Ob → Bool
  | [], [] => true
  | a :: r, b :: q => likeB a b && likeL r q
  | _, _ => false
def setL : List (Nat × Ob) → Objs → Objs
  | [], O => O
  | (n, o) :: r, O => setO n (some o) (setL r O)
def hideO : List Nat → Objs → Objs
  | [], O => O
  | n :: r, O => setO n none (hideO r O)
def offs (ex : List Nat) (v : SV) : Bool := v.refs.all fun n => !ex.contains n
/-- What the answer of an operation of the open part must not lead to: a pointer that is read off may lead to what is lent. -/
def exL (op : DOp) (ex : List Nat) : List Nat := match op with
  | .load _ _ _ => ex.filter fun n => decide (n < 1000000)
  | .mv _ => ex.filter fun n => decide (n < 1000000)
  | _ => ex
def argC (O : Objs) (le : List Nat) (v : SV) : Option SV :=
  match snap (hideO le O) 6 v with
  | some p => some (.p p)
  | none => if (v.refs.all fun n => le.contains n) = true then some (v.tr (nmBy (toX le))) else none
def lendO (O : Objs) (le : List Nat) : Option (List Ob) := le.mapM fun n => (O n).map (Ob.tr (nmBy (toX le)))
def newC (d : Nat) : Nat → List Ob → List (Nat × Ob)
  | _, [] => []
  | j, o :: r => (NM d j, o) :: newC d (j + 1) r
/-- A call: its result, what became of the objects that are lent, new objects. -/
def callC (Γ : Gam) (O : Objs) (d own : Nat) (le : List Nat) (fv : SV) (args : List SV) : Option (SV × List (Nat × Ob) × List (Nat × Ob)) :=
  match callee fv with
  | some (g, a, b) => match (a ++ args ++ b).mapM (argC O le), lendO O le with
    | some as, some ext => match Γ g as ext with
      | some (r, ext', fs) =>
        if fs.length ≤ own ∧ likeL ext ext' = true ∧ fs.all plainOb = true ∧ (((a ++ args ++ b).all fun v => v.refs.all fun n => le.contains n) = true ∨ (r.scal && (ext'.all Ob.scal && fs.all Ob.scal)) = true) then
          some (r.tr (nmBy (nmC d le fs.length)), le.zip (ext'.map (Ob.tr (nmBy (nmC d le fs.length)))), newC d 0 fs)
        else none
      | none => none
    | _, _ => none
  | none => none

/-- References given up without a trace. -/
def killL (g : List Nat) : SV → SV
  | .ar m => if g.contains m = true then .junk else .ar m
  | .sub m lo hi => if g.contains m = true then .junk else .sub m lo hi
  | .bx m o => if g.contains m = true then .junk else .bx m o
  | .el m i j => if g.contains m = true then .junk else .el m i j
  | .mp m => if g.contains m = true then .junk else .mp m
  | v => v
def killE (g : List Nat) (σ : Env) : Env := fun i => (σ i).tr (killL g)
def killO (g : List Nat) (O : Objs) : Objs := fun m => if g.contains m = true then none else (O m).map (Ob.tr (killL g))
def likeG : List Ob → List Ob → Bool
  | [], [] => true
  | a :: r, b :: q => (gone b || likeB a b) && likeG r q
  | _, _ => false
def goneN : List Nat → List Ob → List Nat
  | n :: r, o :: q => if gone o = true then n :: goneN r q else goneN r q
  | _, _ => []
def goneAt (ext' : List Ob) (i : Nat) : Bool := match ext'[i]? with
  | some o => gone o
  | none => false
def nmG (d : Nat) (le : List Nat) (ext' : List Ob) (nf m : Nat) : Option Nat := if 2000000 ≤ m then (if m - 2000000 < nf then some (NM d (m - 2000000)) else none) else if 1000000 ≤ m then (if goneAt ext' (m - 1000000) = true then none else le[m - 1000000]?) else none
def updG (f : SV → SV) : List Nat → List Ob → List (Nat × Ob)
  | n :: r, o :: q => if gone o = true then updG f r q else (n, o.tr f) :: updG f r q
  | _, _ => []
/-- A call to which objects may be given away: its result, what became of the lent, who is gone, who is new. -/
def callG (Γ : Gam) (O : Objs) (d own : Nat) (le : List Nat) (fv : SV) (args : List SV) : Option (SV × List (Nat × Ob) × List Nat × List (Nat × Ob)) :=
  match callee fv with
  | some (g, a, b) => match (a ++ args ++ b).mapM (argC O le), lendO O le with
    | some as, some ext => match Γ g as ext with
      | some (r, ext', fs) =>
        if fs.length ≤ own ∧ likeG ext ext' = true ∧ fs.all plainOb = true ∧ ((a ++ args ++ b).all fun v => v.refs.all fun n => le.contains n) = true then
          some (r.tr (nmBy (nmG d le ext' fs.length)), updG (nmBy (nmG d le ext' fs.length)) le ext', goneN le ext', newC d 0 fs)
        else none
      | none => none
    | _, _ => none
  | none => none

def stepW (Γ : Gam) (d : Option Nat) (σ : Env) (O : Objs) : WOp → Option (SV × Env × Objs)
  | .alloc z => d.map fun d => newA d (.box (z.map .p)) (.bx d 0) σ O
  | .mkmap => d.map fun d => newA d (.map []) (.mp d) σ O
  | .mkmapF => some (.p (.mapv []), σ, O)
  | .allocA z => if (z.all PV.isCell) = true ∧ 0 < z.length then d.map fun d => newA d (.arr 1 z) (.el d 0 0) σ O else none
  | .mapup kn m k v => match ev σ m, keyA kn (ev σ k), ev σ v with
    | .mp m, some k, .p v => match O m with
      | some (.map es) => if keysOk kn es = true then (match mset k v es with
        | some es' => some (.un, σ, setO m (some (.map es')) O)
        | none => none) else none
      | _ => none
    | _, _, _ => none
  | .slcF n x => match ev σ x with
    | .bx m 0 => match O m with
      | some (.box cs) => match allP cs with
        | some vs => if vs.length = n ∧ 0 < n ∧ vs.all PV.isCell = true then some (.p (.sl 1 vs), freezeE m (O m) σ, freezeO m (O m) O) else none
        | none => none
      | _ => none
    | _ => none
  | .copy x y => match ev σ x, elems O 1 (ev σ y) with
    | .sub m lo hi, some ys => match O m with
      | some (.arr sz xs) => if sz = 1 ∧ lo < hi ∧ hi ≤ xs.length ∧ ys.length = hi - lo ∧ (ys.all PV.isCell) = true then some (.p (.int .i64 (hi - lo : Nat)), σ, setO m (some (.arr 1 (putPV xs lo ys))) O) else none
      | _ => none
    | _, _ => none
  | .clear sz z x => match ev σ x with
    | .sub m lo hi => match O m with
      | some (.arr s xs) => if s = sz ∧ lo ≤ hi ∧ hi ≤ xs.length then some (.tp [], σ, setO m (some (.arr sz (putPV xs lo (List.replicate (hi - lo) z)))) O) else none
      | _ => none
    | _ => none
  | .box n x => match d with
    | some d => match cellsA O (ev σ x) with
      | some cs => if cs.length = n then some (newA d (.box cs) (.bx d 0) σ O) else none
      | none => none
    | none => none
  | .store n a x => match ev σ a with
    | .bx m off => match O m with
      | some (.box cs) => match cellsA O (ev σ x) with
        | some vs => if vs.length = n ∧ off + n ≤ cs.length ∧ vs.all (okCell O) = true then some (.un, σ, setO m (some (.box (putCells cs off vs))) O) else none
        | none => none
      | _ => none
    | .el m i j => match O m with
      | some (.arr sz xs) => match xs[i]? with
        | some e => if j = 0 ∧ n = sz then (match elemOf sz (ev σ x) with
            | some v => if v.cells.all PV.isCell = true then some (.un, σ, setO m (some (.arr sz (xs.set i v))) O) else none
            | none => none)
          else match elemOf n (ev σ x) with
            | some v => if j + n ≤ e.cells.length ∧ v.cells.all PV.isCell = true then some (.un, σ, setO m (some (.arr sz (xs.set i (.agg (putPV e.cells j v.cells))))) O)
              else if sz = 1 ∧ j = 0 ∧ i + n ≤ xs.length ∧ v.cells.all PV.isCell = true then some (.un, σ, setO m (some (.arr sz (putPV xs i v.cells))) O) else none
            | none => none
        | none => none
      | _ => none
    | _ => none
  | .bslice sz zs parts => match d with
    | some d =>
      let s := freezeAll (SV.refsL (parts.map fun p => ev σ p.2)) (σ, O)
      match partsA (ev s.1) sz parts zs with
      | some xs => some (newA d (.arr sz xs) (.ar d) s.1 s.2)
      | none => none
    | none => none
  | .bsliceW tk t sz zs parts => match d, σ tk, σ t with
    | some d, .p (.tok A), .ar m => match O m with
      | some (.arr 1 xs) => if (xs.all PV.isInt) = true then (
          let s0 := freezeAll [m] (σ, O)
          let s := freezeAll (SV.refsL (parts.map fun p => ev (put (some t) (.p (.wh A xs)) s0.1) p.2)) (put (some t) (.p (.wh A xs)) s0.1, s0.2)
          match partsA (ev s.1) sz parts zs with
          | some xs => some (newA d (.arr sz xs) (.ar d) s.1 s.2)
          | none => none) else none
      | _ => none
    | _, _, _ => none
  | .mkslice sz z l => match d with
    | some d => match natOf (ev σ l) with
      | some n => if n ≤ roomA then some (newA d (.arr sz (List.replicate n z)) (.ar d) σ O) else none
      | none => none
    | none => none
  | .append sz x y => match elems O sz (ev σ y) with
    | some ys => match ev σ x with
      | .ar m => match O m with
        | some (.arr s xs) => if s = sz ∧ m < 1000000 ∧ xs.length + ys.length ≤ roomA ∧ (ys.all fun y => y.cells.all PV.isCell) = true then some (.ar m, freezeE m none σ, setO m (some (.arr sz (xs ++ ys))) (freezeO m none O)) else none
        | _ => none
      | .sub m 0 k => match O m with
        | some (.arr s xs) => if s = 1 ∧ sz = 1 ∧ 0 < xs.length ∧ k + ys.length ≤ xs.length ∧ (ys.all PV.isCell) = true then some (.sub m 0 (k + ys.length), σ, setO m (some (.arr 1 (putPV xs k ys))) O) else none
        | _ => none
      | .p .nilsl => match ys with
        | [] => some (.p .nilsl, σ, O)
        | _ :: _ => if ys.length ≤ roomA then d.map fun d => newA d (.arr sz ys) (.ar d) σ O else none
      | _ => none
    | none => none
  | .callL f args lend own fzs =>
    if own < 100 then
      let s1 := freezeAll (nms (d.getD 0) own) (σ, O)
      let le := lend.filter fun n => (s1.2 n).isSome
      let s2 := if fzs = true then freezeAll ((SV.refsL (args.map (ev s1.1))).filter fun n => !le.contains n) s1 else s1
      match callC Γ s2.2 (d.getD 0) own le (ev s2.1 f) (args.map (ev s2.1)) with
      | some (v, upd, new) => some (v, s2.1, setL new (setL upd s2.2))
      | none => none
    else
      let le := lend.filter fun n => (O n).isSome
      let s2 := if fzs = true then freezeAll ((SV.refsL (args.map (ev σ))).filter fun n => !le.contains n) (σ, O) else (σ, O)
      match callG Γ s2.2 (d.getD 0) (own - 100) le (ev s2.1 f) (args.map (ev s2.1)) with
      | some (v, upd, gn, new) => if ((nms (d.getD 0) (own - 100)).all fun n => !le.contains n || gn.contains n) = true then some (v, killE (gn ++ nms (d.getD 0) (own - 100)) s2.1, setL new (setL upd (killO (gn ++ nms (d.getD 0) (own - 100)) s2.2))) else none
      | none => none

/-- Operations that make objects and change none. -/
def stepM (Γ : Gam) (d : Option Nat) (O : Objs) (ρ : Od → SV) : WOp → Option (SV × List (Nat × Ob))
  | .alloc z => d.map fun d => (.bx d 0, [(d, .box (z.map .p))])
  | .bslice sz zs parts => match d, partsA ρ sz parts zs with
    | some d, some xs => some (.ar d, [(d, .arr sz xs)])
    | _, _ => none
  | .box n x => match d, cellsA O (ρ x) with
    | some d, some cs => if cs.length = n ∧ (SV.refsL cs).isEmpty = true then some (.bx d 0, [(d, .box cs)]) else none
    | _, _ => none
  | .mkslice sz z l => match d, natOf (ρ l) with
    | some d, some n => if n ≤ roomA then some (.ar d, [(d, .arr sz (List.replicate n z))]) else none
    | _, _ => none
  | .callL f args [] own false => match callC Γ O (d.getD 0) own [] (ρ f) (args.map ρ) with
    | some (v, _, new) => some (v, new)
    | none => none
  | .callL f args (l :: r) 0 false => match callee (ρ f) with
    | some (_, a, b) => if ((a ++ args.map ρ ++ b).all fun v => v.refs.all fun n => (l :: r).contains n) = true then (match callC Γ O (d.getD 0) 0 (l :: r) (ρ f) (args.map ρ) with
      | some (v, upd, _) => if (upd.all fun p => plainOb p.2) = true then some (v, upd) else none
      | none => none) else none
    | none => none
  | .store n (.t tn) x => match ρ (.t tn) with
    | .bx m off => match O m, cellsA O (ρ x) with
      | some (.box cs), some vs => if m = tn ∧ vs.length = n ∧ off + n ≤ cs.length ∧ vs.all (okCell O) = true ∧ ((SV.refsL vs).all fun k => (O k).isSome) = true then some (.un, [(m, .box (putCells cs off vs))]) else none
      | _, _ => none
    | _ => none
  | _ => none
/-- Those that write into what stands there. -/
def WOp.isUp : WOp → Bool
  | .store _ _ _ | .callL _ _ (_ :: _) _ _ => true
  | _ => false
/-- The names of what an operation makes. -/
def madeBy : RO → List Nat
  | ⟨some d, _, .w (.callL _ _ [] own false)⟩ => nms d own
  | ⟨some d, _, .w (.alloc _)⟩ | ⟨some d, _, .w (.bslice _ _ _)⟩ | ⟨some d, _, .w (.box _ _)⟩ | ⟨some d, _, .w (.mkslice _ _ _)⟩ => [d]
  | _ => []

/-- The names of what an operation makes or writes. -/
def touch : RO → List Nat
  | ⟨_, _, .w (.store _ (.t n) _)⟩ => [n]
  | ⟨_, _, .w (.callL _ _ (l :: r) 0 false)⟩ => l :: r
  | r => madeBy r

def wantA (g : Option (Nat × Bool)) (σ : Env) : Option Bool :=
  match g with
  | none => some true
  | some (s, b) => match σ s with
    | .p (.bool t) => some (t == b)
    | .un => some false
    | _ => none

def stepA (Γ : Gam) (o : RO) (σ : Env) (O : Objs) : Option (Env × Objs) :=
  match o.op with
  | .d op => match stepD Γ O (ev σ) op with
    | some v => some (put o.dst v σ, O)
    | none => none
  | .w op => match stepW Γ o.dst σ O op with
    | some (v, σ', O') => some (put o.dst v σ', O')
    | none => none

def runOps (Γ : Gam) : List RO → Env → Objs → (Env → Objs → Prop) → Prop
  | [], σ, O, K => K σ O
  | o :: r, σ, O, K => match wantA o.guard σ with
    | some true => ∃ s, stepA Γ o σ O = some s ∧ runOps Γ r s.1 s.2 K
    | some false => runOps Γ r (put o.dst .un σ) O K
    | none => False

/-- The operations of a region whose order is open, in the order of the text: each sees the objects alone that stand there in every order. -/
def runB (Γ : Gam) : List (List Nat × RO) → Env → Objs → (Env → Objs → Prop) → Prop
  | [], σ, O, K => K σ O
  | (ex, o) :: r, σ, O, K => match wantA o.guard σ with
    | some true => match o.op with
      | .d op => ∃ v, stepD Γ (hideO ex O) (ev σ) op = some v ∧ offs (exL op ex) v = true ∧ runB Γ r (put o.dst v σ) O K
      | .w op => ∃ p, stepM Γ o.dst (hideO ex O) (ev σ) op = some p ∧ offs ex p.1 = true ∧ runB Γ r (put o.dst p.1 σ) (setL p.2 O) K
    | some false => runB Γ r (put o.dst .un σ) O K
    | none => False

/-- The light operations answer as they did. -/
def chkL (Γ : Gam) : List RO → Env → Objs → Prop
  | [], _, _ => True
  | ⟨some d, none, .d op⟩ :: r, σ, O => stepD Γ O (ev σ) op = some (σ d) ∧ chkL Γ r σ O
  | _ :: _, _, _ => False
/-- The chain of a region whose order is open. -/
def runC (Γ : Gam) : List (RO × List RO) → Env → Objs → (Env → Objs → Prop) → Prop
  | [], σ, O, K => K σ O
  | (c, pe) :: r, σ, O, K => ∃ s, stepA Γ c σ O = some s ∧ chkL Γ pe s.1 s.2 ∧ runC Γ r s.1 s.2 K

inductive Out where
  | norm | ret | exit (id : Nat)

def loopN (B : (Out → Env → Objs → Prop) → Env → Objs → Prop) (Q : Out → Env → Objs → Prop) : Nat → Env → Objs → Prop
  | 0, _, _ => False
  | n + 1, σ, O => B (fun o σ' O' => match o with | .norm => loopN B Q n σ' O' | o => Q o σ' O') σ O

def aw (Γ : Gam) (ks os : List Nat) : AC → (Out → Env → Objs → Prop) → Env → Objs → Prop
  | .skip, Q, σ, O => Q .norm σ O
  | .reg ops, Q, σ, O => runOps Γ ops σ O fun σ' O' => Q .norm (keepE ks σ') (keepO os O')
  | .dreg pend body tail, Q, σ, O =>
    let s := freezeAll pend (σ, O)
    runB Γ body s.1 s.2 fun σ' O' => runOps Γ tail σ' O' fun σ'' O'' => Q .norm (keepE ks σ'') (keepO os O'')
  | .creg li ch tail, Q, σ, O => runOps Γ li σ O fun σ O => chkL Γ li σ O ∧ runC Γ ch σ O fun σ O => runOps Γ tail σ O fun σ O => Q .norm (keepE ks σ) (keepO os O)
  | .seq a b, Q, σ, O => aw Γ ks os a (fun o σ' O' => match o with | .norm => aw Γ ks os b Q σ' O' | o => Q o σ' O') σ O
  | .cond c a b, Q, σ, O => ∃ t, ev σ c = .p (.bool t) ∧ (if t = true then aw Γ ks os a Q σ O else aw Γ ks os b Q σ O)
  | .block id b, Q, σ, O => aw Γ ks os b (fun o σ' O' => match o with | .exit i => (if i = id then Q .norm σ' O' else Q (.exit i) σ' O') | o => Q o σ' O') σ O
  | .loop b, Q, σ, O => ∃ n, loopN (fun Q' => aw Γ ks os b Q') Q n σ O
  | .exit id, Q, σ, O => Q (.exit id) σ O
  | .ret, Q, σ, O => Q .ret σ O

/-! from the model's code to this machine's text -/
def ofScal : Value → Option PV
  | .bool b => some (.bool b)
  | .int k n => some (.int k n)
  | .string s => some (.str s)
  | .slice none 0 0 => some .nilsl
  | .pointer none => some .np
  | .nilFunc => some .nilfn
  | .map none => some .nilmap
  | _ => none
def ofScals : List Value → Option (List PV)
  | [] => some []
  | v :: r => match ofScal v, ofScals r with
    | some a, some b => some (a :: b)
    | _, _ => none
def ofVal : Value → Option PV
  | .agg cs => (ofScals cs.toList).map .agg
  | v => ofScal v
def odOf : Operand → Option Od
  | .tmp t => some (.t t)
  | .const v => (ofVal v).map .c
  | .func f => some (.f f)
  | .global _ => none
def odsOf : List Operand → Option (List Od)
  | [] => some []
  | x :: r => match odOf x, odsOf r with
    | some a, some b => some (a :: b)
    | _, _ => none
def optOd : Option Operand → Option (Option Od)
  | none => some none
  | some x => (odOf x).map some

def tyAg (P : Program) (t : TypeId) : Option Bool :=
  match P.underlying t with
  | some (.struct _) | some (.array _ _) => some true
  | some _ => some false
  | none => none
def tySz (P : Program) (t : TypeId) : Option Nat := (P.info? t).map (·.size)
def tyZero (P : Program) (t : TypeId) : Option PV :=
  match P.info? t with
  | some i => match i.zero with
    | some z => ofVal z
    | none => none
  | none => none
def tyElem (P : Program) (t : TypeId) : Option TypeId :=
  match P.underlying t with
  | some (.slice e) => some e
  | _ => none
def tyKind (P : Program) (t : TypeId) : Option EK :=
  match P.underlying t with
  | some (.int _) => some .arith
  | some .bool => some .bool
  | some .string => some .str
  | some (.slice _) => some .slice
  | some (.pointer _) => some .ptr
  | some (.array n e) => match P.underlying e with
    | some (.int _) => if tySz P e = some 1 ∧ P.eqGuardType P.depth t = false then some (.arr n) else none
    | _ => none
  | _ => none
/-- The kind of key of a map: an int, or an array of ints. -/
def keyTy (P : Program) (t : TypeId) : Option (Option Nat) :=
  match P.underlying t with
  | some (.int _) => some none
  | some (.array n e) => match P.underlying e with
    | some (.int _) => if tySz P e = some 1 then some (some n) else none
    | _ => none
  | _ => none

/-- What is asked of a call beyond the plain: which arguments are lent, whether its new objects are kept, whether what it was shown is given up. -/
structure Ann where
  lend : List Nat
  own : Nat
  fzs : Bool
  deriving Inhabited

def partsOf (place : Nat → Option (Nat × Nat)) : List (Nat × Operand) → Option (List (Nat × Nat × Od))
  | [] => some []
  | (i, x) :: r => match place i, odOf x, partsOf place r with
    | some (off, n), some x, some r => some ((off, n, x) :: r)
    | _, _, _ => none
def parts2Of : List (Nat × Operand) → Option (List (Nat × Od))
  | [] => some []
  | (i, x) :: r => match odOf x, parts2Of r with
    | some x, some r => some ((i, x) :: r)
    | _, _ => none
def fieldPl (P : Program) (t : TypeId) (i : Nat) : Option (Nat × Nat) :=
  match P.underlying t with
  | some (.struct fs) => match fs[i]? with
    | some f => (tySz P f.type).map fun n => (f.offset, n)
    | none => none
  | some (.array _ e) => (tySz P e).map fun n => (i * n, n)
  | _ => none

def flatOk (P : Program) (t : TypeId) : Bool :=
  match P.underlying t with
  | some (.struct fs) => fs.toList.all fun f => (tySz P f.type).isSome
  | some (.array _ e) => (tySz P e).isSome
  | _ => false

def annW : Option Ann → Option (Nat × Nat)
  | some ⟨[tk, t], 77, _⟩ => some (tk, t)
  | _ => none
def isU8 (P : Program) (e : TypeId) : Bool := match P.underlying e with
  | some (.int .u8) => true
  | _ => false
def opOf (P : Program) (ann : Nat → Option Ann) (o : Oper) : Option AOp :=
  match o.op with
  | .move x | .assign x => (odOf x).map fun x => .d (.mv x)
  | .pick c a b => match odOf c, odOf a, odOf b with
    | some c, some a, some b => some (.d (.pick c a b))
    | _, _, _ => none
  | .alloc t => match o.dst.bind ann with
    | some _ => (tyZero P t).map fun z => .w (.allocA z.cells)
    | none => (tyZero P t).map fun z => .w (.alloc z.cells)
  | .box t x => match tySz P t, odOf x with
    | some n, some x => some (.w (.box n x))
    | _, _ => none
  | .build t ps => match tyZero P t, partsOf (fieldPl P t) ps.toList with
    | some z, some ps => if flatOk P t then some (.d (.build z.cells ps)) else none
    | _, _ => none
  | .buildSlice t n ps => match tyElem P t with
    | some e => match tySz P e, tyZero P e, parts2Of ps.toList with
      | some sz, some z, some ps => if n * sz ≤ 16777216 ∧ 0 < sz ∧ z.cells.length = sz then (match annW (o.dst.bind ann) with
        | some (tk, t) => some (.w (.bsliceW tk t sz (List.replicate n z) ps))
        | none => some (.w (.bslice sz (List.replicate n z) ps))) else none
      | _, _, _ => none
    | none => none
  | .load t a => match tyAg P t, tySz P t, odOf a with
    | some ag, some n, some a => some (.d (.load ag n a))
    | _, _, _ => none
  | .store t a x => match tySz P t, odOf a, odOf x with
    | some n, some a, some x => some (.w (.store n a x))
    | _, _, _ => none
  | .nilCheck x => (odOf x).map fun x => .d (.nilck x)
  | .binOp op t x y _ => match odOf x, odOf y, tyKind P t with
    | some x, some y, some kd => some (.d (.bin kd op x y))
    | _, _, _ => none
  | .unOp .not _ x => (odOf x).map fun x => .d (.not x)
  | .unOp .neg _ x => (odOf x).map fun x => .d (.neg x)
  | .convert s t x => match P.underlying s, P.underlying t, odOf x with
    | some (.int _), some (.int k), some x => some (.d (.conv k x))
    | some (.slice e), some .string, some x => if isU8 P e = true then some (.d (.convS x)) else none
    | _, _, _ => none
  | .makeFunc (.func f) a b => match odsOf a.toList, odsOf b.toList with
    | some a, some b => some (.d (.mkfn f a b))
    | _, _ => none
  | .makeMap _ none => match o.dst.bind ann with
    | some _ => some (.w .mkmapF)
    | none => some (.w .mkmap)
  | .makeSlice t (.tmp l) (.tmp c) => if l = c then match tyElem P t with
      | some e => match P.info? e, tyZero P e with
        | some i, some z => if i.bytes ≤ 65536 ∧ 0 < i.size ∧ z.cells.length = i.size then some (.w (.mkslice i.size z (.t l))) else none
        | _, _ => none
      | none => none
    else none
  | .slice t x lo hi none => match P.underlying t with
    | some (.slice e) => match tySz P e, odOf x, optOd lo, optOd hi with
      | some sz, some x, some lo, some hi => some (.d (.slc sz x lo hi))
      | _, _, _, _ => none
    | some .string => match odOf x, optOd lo, optOd hi with
      | some x, some lo, some hi => some (.d (.slcS x lo hi))
      | _, _, _ => none
    | some (.array n e) => match tySz P e, odOf x, optOd lo, optOd hi with
      | some sz, some x, some lo', some hi' => match o.dst.bind ann with
        | some _ => if lo.isNone ∧ hi.isNone ∧ sz = 1 then some (.w (.slcF n x)) else none
        | none => some (.d (.slcA n sz x lo' hi'))
      | _, _, _, _ => none
    | _ => none
  | .slice t x (some lo) (some hi) (some mx) => match P.underlying t with
    | some (.slice e) => match tySz P e, odOf x, odOf lo, odOf hi, odOf mx with
      | some _, some x, some lo, some hi, some mx => some (.d (.slc3 x lo hi mx))
      | _, _, _, _, _ => none
    | _ => none
  | .fieldAddr t x f => match P.underlying t with
    | some (.struct fs) => match fs[f]? with
      | some f => match tySz P f.type, odOf x with
        | some n, some x => if n = 0 then none else some (.d (.fa f.offset x))
        | _, _ => none
      | none => none
    | _ => none
  | .field t x f => match P.underlying t with
    | some (.struct fs) => match fs[f]? with
      | some f => match tyAg P f.type, tySz P f.type, odOf x with
        | some ag, some n, some x => some (.d (.fld ag f.offset n x))
        | _, _, _ => none
      | none => none
    | _ => none
  | .indexAddr t x i => match P.underlying t with
    | some (.slice e) => match tySz P e, odOf x, odOf i with
      | some sz, some x, some i => some (.d (.ia sz x i))
      | _, _, _ => none
    | some (.array n e) => match tySz P e, odOf x, odOf i with
      | some sz, some x, some i => some (.d (.iaA n sz x i))
      | _, _, _ => none
    | _ => none
  | .index t x i => match P.underlying t, odOf x, odOf i with
    | some .string, some x, some i => some (.d (.idxS x i))
    | _, _, _ => none
  | .lookup t m k ok => match P.underlying t with
    | some (.map kt e) => match tyZero P e, odOf m, odOf k, keyTy P kt with
      | some z, some m, some k, some kn => some (.d (.lookup z ok kn m k))
      | _, _, _, _ => none
    | _ => none
  | .mapUpdate t m k x => match P.underlying t with
    | some (.map kt _) => match odOf m, odOf k, odOf x, keyTy P kt with
      | some m, some k, some x, some kn => some (.w (.mapup kn m k x))
      | _, _, _, _ => none
    | _ => none
  | .extract x i => (odOf x).map fun x => .d (.extract x i)
  | .call c => match c.callee, odsOf c.args.toList with
    | .value f, some args => match odOf f with
      | some f => match o.dst.bind ann with
        | some a => if a.lend.Nodup ∧ a.lend.length ≤ 1000 ∧ (a.own ≤ 15 ∨ (100 ≤ a.own ∧ a.own ≤ 115 ∧ a.lend ≠ [])) then some (.w (.callL f args a.lend a.own a.fzs)) else none
        | none => some (.d (.call f args))
      | none => none
    | .builtin .len, some [x] => match (c.argTypes[0]?).bind P.underlying with
      | some (.slice _) => some (.d (.len x))
      | some .string => some (.d (.lenS x))
      | _ => none
    | .builtin .copy, some [x, y] => match (c.argTypes[0]?).bind (tyElem P), (c.argTypes[1]?).bind (tyElem P) with
      | some e, some _ => if tySz P e = some 1 then some (.w (.copy x y)) else none
      | _, _ => none
    | .builtin .clear, some [x] => match (c.argTypes[0]?).bind (tyElem P) with
      | some e => match tySz P e, tyZero P e with
        | some sz, some z => if 0 < sz ∧ z.cells.length = sz ∧ z.cells.all PV.isCell = true then some (.w (.clear sz z x)) else none
        | _, _ => none
      | none => none
    | .builtin .max, some [x, y] => some (.d (.max2 x y))
    | .builtin .min, some [x, y] => some (.d (.min2 x y))
    | .builtin .append, some [x, y] => match (c.argTypes[0]?).bind (tyElem P), (c.argTypes[1]?).bind P.underlying with
      | some e, some (.slice _) => match P.info? e with
        | some i => if i.bytes ≤ 4096 ∧ 0 < i.bytes ∧ 0 < i.size ∧ ((i.zero.map (·.cells.size)) = some i.size) then some (.w (.append i.size x y)) else none
        | none => none
      | _, _ => none
    | _, _ => none
  | _ => none

def guardOf (ops : Array Oper) (o : Oper) : Option (Option (Nat × Bool)) :=
  match o.guard with
  | none => some none
  | some (j, b) => match (ops[j]?).bind (·.dst) with
    | some d => some (some (d, b))
    | none => none

def roOf (P : Program) (ann : Nat → Option Ann) (ops : Array Oper) (o : Oper) : Option RO :=
  match guardOf ops o, opOf P ann o with
  | some g, some op => if (o.dst.all fun d => decide (d < 50000)) = true then some ⟨o.dst, g, op⟩ else none
  | _, _ => none
def rosOf (P : Program) (ann : Nat → Option Ann) (ops : Array Oper) : List Oper → Option (List RO)
  | [] => some []
  | o :: r => match roOf P ann ops o, rosOf P ann ops r with
    | some a, some b => some (a :: b)
    | _, _ => none

/-- 'j' stands before 'o' in each order that is allowed. -/
def edge (o : Oper) (j : Nat) : Bool := o.after.toList.any fun e => Region.binds .any e && e.on == j
def isB : RO → Bool
  | ⟨_, _, .d _⟩ => true
  | ⟨_, _, .w (.store _ (.t _) _)⟩ => true
  | ⟨some _, _, .w (.callL _ _ (_ :: _) 0 false)⟩ => true
  | ⟨some _, _, .w (.callL _ _ [] _ false)⟩ | ⟨some _, _, .w (.alloc _)⟩ | ⟨some _, _, .w (.bslice _ _ _)⟩ | ⟨some _, _, .w (.box _ _)⟩ | ⟨some _, _, .w (.mkslice _ _ _)⟩ => true
  | _ => false
def Od.tmps : Od → List Nat
  | .t n => [n]
  | _ => []
def optTmps : Option Od → List Nat
  | none => []
  | some x => x.tmps
def DOp.tmps : DOp → List Nat
  | .mv x | .load _ _ x | .nilck x | .not x | .neg x | .conv _ x | .fa _ x | .fld _ _ _ x | .extract x _ | .len x | .lenS x => x.tmps
  | .pick c a b => c.tmps ++ a.tmps ++ b.tmps
  | .build _ ps => ps.flatMap fun p => p.2.2.tmps
  | .bin _ _ x y | .ia _ x y | .iaA _ _ x y | .lookup _ _ _ x y | .max2 x y | .min2 x y => x.tmps ++ y.tmps
  | .mkfn _ a b => a.flatMap Od.tmps ++ b.flatMap Od.tmps
  | .slc _ x lo hi | .slcS x lo hi | .slcA _ _ x lo hi => x.tmps ++ optTmps lo ++ optTmps hi
  | .slc3 x lo hi mx => x.tmps ++ lo.tmps ++ hi.tmps ++ mx.tmps
  | .idxS x i => x.tmps ++ i.tmps
  | .convS x => x.tmps
  | .call f l => f.tmps ++ l.flatMap Od.tmps
def WOp.tmps : WOp → List Nat
  | .alloc _ | .mkmap | .mkmapF | .allocA _ => []
  | .box _ x | .mkslice _ _ x | .clear _ _ x | .slcF _ x => x.tmps
  | .store _ a x | .append _ a x | .copy a x => a.tmps ++ x.tmps
  | .bslice _ _ ps => ps.flatMap fun p => p.2.tmps
  | .mapup _ a b c => a.tmps ++ b.tmps ++ c.tmps
  | .callL f l _ _ _ => f.tmps ++ l.flatMap Od.tmps
  | .bsliceW tk t _ _ ps => tk :: t :: ps.flatMap fun p => p.2.tmps
def RO.looks (r : RO) : List Nat := (match r.guard with | some (g, _) => [g] | none => []) ++ (match r.op with | .d o => o.tmps | .w o => o.tmps)
/-- Neither writes what the other reads or writes. -/
def RO.apart (x y : RO) : Bool :=
  (match x.dst with | some d => !y.looks.contains d && y.dst != some d | none => true) && (match y.dst with | some d => !x.looks.contains d | none => true)
/-- Those that stand before an operation, near or far. -/
def edgesOf (o : Oper) : List Nat := o.after.toList.filterMap fun e => if Region.binds .any e then some e.on else none
def predsAcc : List Oper → List (List Nat) → List (List Nat)
  | [], acc => acc
  | o :: r, acc => predsAcc r (acc ++ [((edgesOf o).flatMap fun k => k :: acc.getD k []).eraseDups])
def preds (l : List Oper) : List (List Nat) := predsAcc l []
def bodyOk (pre : List (List Nat)) (ros : List RO) (k : Nat) : Bool := (List.range k).all fun j => (List.range j).all fun i => (pre.getD j []).contains i || (ros.getD i default).apart (ros.getD j default)
def tailOk (pre : List (List Nat)) (k : Nat) : Bool := (List.range pre.length).all fun j => decide (j < k) || (List.range j).all fun i => (pre.getD j []).contains i
def backOk (l : List Oper) : Bool := (List.range l.length).all fun j => (l.getD j default).after.toList.all fun e => decide (e.on < j) || !Region.binds .any e
/-- Where the tail begins: from there on each operation stands behind all that are before it. -/
def cutAt (pre : List (List Nat)) : Nat → Nat
  | 0 => 0
  | k + 1 => if tailOk pre k then cutAt pre k else k + 1
/-- What an operation of the open part must not see: all that may be made or written there before or after it. -/
def exOf (pre : List (List Nat)) (ros : List RO) (all : List Nat) (k j : Nat) : List Nat :=
  all.filter fun n => (List.range k).any fun i => !(i == j) && (touch (ros.getD i default)).contains n && !(pre.getD j []).contains i && (!(pre.getD i []).contains j || (madeBy (ros.getD i default)).contains n)
def dregOf (P : Program) (ann : Nat → Option Ann) (ops : Array Oper) : Option AC :=
  let l := ops.toList
  let pre := preds l
  let k := cutAt pre l.length
  match rosOf P ann ops l with
  | some ros =>
    let pend := (ros.take k).flatMap madeBy
    if (ros.take k).all isB && backOk l && tailOk pre k && bodyOk pre ros k && decide pend.Nodup then some (.dreg pend ((List.range k).map fun j => (exOf pre ros ((ros.take k).flatMap touch).eraseDups k j, ros.getD j default)) (ros.drop k)) else none
  | none => none

def isLt : RO → Bool
  | ⟨some _, none, .d _⟩ => true
  | _ => false
def isCh : RO → Bool
  | ⟨some _, none, .w (.append _ _ _)⟩ | ⟨some _, none, .w (.bslice _ _ _)⟩ => true
  | ⟨some _, none, .w (.callL _ _ [] own _)⟩ => decide (own < 100)
  | _ => false
def dstN (r : RO) : Nat := r.dst.getD 0
/-- The light ones of the first k, those of the chain. -/
def ltIx (ros : List RO) (k : Nat) : List Nat := (List.range k).filter fun j => isLt (ros.getD j default)
def chIx (ros : List RO) (k : Nat) : List Nat := (List.range k).filter fun j => isCh (ros.getD j default)
/-- Each stands behind all the others of the chain that are before it. -/
def chOk (pre : List (List Nat)) : List Nat → Bool
  | [] => true
  | c :: r => (r.all fun c' => (pre.getD c' []).contains c) && chOk pre r
/-- What reads what a light one answers stands behind it; no two answer to one place. -/
def ltOk (pre : List (List Nat)) (ros : List RO) (k : Nat) : Bool := (ltIx ros k).all fun i => (List.range k).all fun j => (!(ros.getD j default).looks.contains (dstN (ros.getD i default)) || (pre.getD j []).contains i) && (j == i || dstN (ros.getD j default) != dstN (ros.getD i default))
def cregOf (P : Program) (ann : Nat → Option Ann) (ops : Array Oper) : Option AC :=
  let l := ops.toList
  let pre := preds l
  let k := cutAt pre l.length
  match rosOf P ann ops l with
  | some ros =>
    if ((List.range k).all fun j => isLt (ros.getD j default) || isCh (ros.getD j default)) && backOk l && tailOk pre k && chOk pre (chIx ros k) && ltOk pre ros k then
      some (.creg ((ltIx ros k).map fun j => ros.getD j default) ((chIx ros k).map fun c => (ros.getD c default, ((ltIx ros k).filter fun i => !(pre.getD c []).contains i).map fun i => ros.getD i default)) (ros.drop k)) else none
  | none => none

def codeOf (P : Program) (ann : Nat → Option Ann) : Code → Option AC
  | .skip => some .skip
  | .region _ ops false => (rosOf P ann ops ops.toList).map .reg
  | .region _ ops true => match dregOf P ann ops with
    | some x => some x
    | none => cregOf P ann ops
  | .seq a b => match codeOf P ann a, codeOf P ann b with
    | some a, some b => some (.seq a b)
    | _, _ => none
  | .cond c a b => match odOf c, codeOf P ann a, codeOf P ann b with
    | some c, some a, some b => some (.cond c a b)
    | _, _, _ => none
  | .block id b => (codeOf P ann b).map (.block id)
  | .loop b => (codeOf P ann b).map .loop
  | .exit id => some (.exit id)
  | .ret => some .ret
  | _ => none

inductive RV where
  | tmp (t : Nat)
  | cell (t n : Nat) (ag : Bool)
  deriving Inhabited
def rvOf (P : Program) : ResultVar → Option RV
  | .tmp t => some (.tmp t)
  | .cell a t => match tySz P t, tyAg P t with
    | some n, some ag => some (.cell a n ag)
    | _, _ => none
def rvsOf (P : Program) : List ResultVar → Option (List RV)
  | [] => some []
  | r :: rs => match rvOf P r, rvsOf P rs with
    | some a, some b => some (a :: b)
    | _, _ => none

structure AFn where
  np : Nat
  body : AC
  res : List RV
  deriving Inhabited
def fnOf (P : Program) (ann : Nat → Option Ann) (f : Func) : Option AFn :=
  match f.body with
  | some c => match codeOf P ann c, rvsOf P f.results.toList with
    | some b, some r => some ⟨f.params.size + f.nfree, b, r⟩
    | _, _ => none
  | none => none

end Go.Proofs.YtpobnchalcokoaaDoor.Pam
