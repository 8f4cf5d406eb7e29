/-
  A second reading of loaded Go functions, over memory whose blocks have names of their own: 'ev' runs the text of a function in one fixed order; a slice that grows is told by a new name. ShB .. show that whatever this reading answers, the machine's call answers too, on every tape. Here: the reading alone, written so that the kernel runs it in few steps.
-/
import GoSem.Dispatch
set_option linter.unusedVariables false
namespace Go.Sh
open Go
noncomputable section

/-- 'if', told by the recursor: the kernel goes through it in one step -/
abbrev ifB {α : Sort _} (b : Bool) (t e : α) : α := @Bool.rec (fun _ => α) e t b

inductive Cap where
  | ex (c : Nat)
  | op (e : Nat)
  deriving Inhabited

inductive AX where
  | str (s : List UInt8)
  | nilPtr | nilSlice | nilMap | nilFunc | nilIface
  | map (o : Nat)
  deriving Inhabited
inductive AV where
  | int (k : IntKind) (n : Int)
  | bool (b : Bool)
  | ptr (o i : Nat)
  | slice (o i n : Nat) (c : Cap)
  | agg (l : List AV)
  | oth (x : AX)
  | tup (l : List AV)
  | func (f : Fn) (first caps : List AV)
  | iface (t : TypeId) (v : AV)
  deriving Inhabited
abbrev AV.str (s : List UInt8) : AV := .oth (.str s)
abbrev AV.nilPtr : AV := .oth .nilPtr
abbrev AV.nilSlice : AV := .oth .nilSlice
abbrev AV.nilMap : AV := .oth .nilMap
abbrev AV.nilFunc : AV := .oth .nilFunc
abbrev AV.nilIface : AV := .oth .nilIface
abbrev AV.map (o : Nat) : AV := .oth (.map o)
/-! what a value is, told by the recursor -/
def AV.onInt {α : Type} (x : AV) (d : α) (f : IntKind → Int → α) : α :=
  @AV.rec (fun _ => α) (fun _ => PUnit) f (fun _ => d) (fun _ _ => d) (fun _ _ _ _ => d) (fun _ _ => d) (fun _ => d) (fun _ _ => d) (fun _ _ _ _ _ => d) (fun _ _ _ => d) ⟨⟩ (fun _ _ _ _ => ⟨⟩) x
def AV.onBool {α : Type} (x : AV) (d : α) (f : Bool → α) : α :=
  @AV.rec (fun _ => α) (fun _ => PUnit) (fun _ _ => d) f (fun _ _ => d) (fun _ _ _ _ => d) (fun _ _ => d) (fun _ => d) (fun _ _ => d) (fun _ _ _ _ _ => d) (fun _ _ _ => d) ⟨⟩ (fun _ _ _ _ => ⟨⟩) x
def AV.onPtr {α : Type} (x : AV) (d : α) (f : Nat → Nat → α) : α :=
  @AV.rec (fun _ => α) (fun _ => PUnit) (fun _ _ => d) (fun _ => d) f (fun _ _ _ _ => d) (fun _ _ => d) (fun _ => d) (fun _ _ => d) (fun _ _ _ _ _ => d) (fun _ _ _ => d) ⟨⟩ (fun _ _ _ _ => ⟨⟩) x
/-- a pointer, or a slice -/
def AV.onRef {α : Type} (x : AV) (d : α) (f : Nat → Nat → α) (g : Nat → Nat → Nat → Cap → α) : α :=
  @AV.rec (fun _ => α) (fun _ => PUnit) (fun _ _ => d) (fun _ => d) f g (fun _ _ => d) (fun _ => d) (fun _ _ => d) (fun _ _ _ _ _ => d) (fun _ _ _ => d) ⟨⟩ (fun _ _ _ _ => ⟨⟩) x
def AV.onNum {α : Type} (x : AV) (d : AV → α) (f : IntKind → Int → α) (g : AX → α) : α :=
  @AV.rec (fun _ => α) (fun _ => PUnit) f (fun _ => d x) (fun _ _ => d x) (fun _ _ _ _ => d x) (fun _ _ => d x) g (fun _ _ => d x) (fun _ _ _ _ _ => d x) (fun _ _ _ => d x) ⟨⟩ (fun _ _ _ _ => ⟨⟩) x
def AV.onAgg {α : Type} (x : AV) (d : α) (f : List AV → α) : α :=
  @AV.rec (fun _ => α) (fun _ => PUnit) (fun _ _ => d) (fun _ => d) (fun _ _ => d) (fun _ _ _ _ => d) (fun l _ => f l) (fun _ => d) (fun _ _ => d) (fun _ _ _ _ _ => d) (fun _ _ _ => d) ⟨⟩ (fun _ _ _ _ => ⟨⟩) x

def nth {α : Type} (l : List α) : Nat → Option α :=
  @List.rec α (fun _ => Nat → Option α) (fun _ => none) (fun a _ ih n => @Nat.rec (fun _ => Option α) (some a) (fun k _ => ih k) n) l
/-! ### tries -/
inductive Tr (α : Type) where
  | leaf
  | node (v : Option α) (l r : Tr α)
def Tr.get {α : Type} (t : Tr α) : Nat → Option α :=
  @Tr.rec α (fun _ => Nat → Option α) (fun _ => none)
    (fun v _ _ gl gr n => @Nat.rec (fun _ => Option α) v (fun k _ => @Bool.rec (fun _ => Option α) (gr (Nat.div k 2)) (gl (Nat.div k 2)) (Nat.beq (Nat.mod k 2) 0)) n) t
def Tr.single {α : Type} (f : Nat) : Nat → α → Tr α :=
  @Nat.rec (fun _ => Nat → α → Tr α) (fun _ _ => .leaf)
    (fun _ s n a => @Nat.rec (fun _ => Tr α) (.node (some a) .leaf .leaf) (fun k _ => @Bool.rec (fun _ => Tr α) (.node none .leaf (s (Nat.div k 2) a)) (.node none (s (Nat.div k 2) a) .leaf) (Nat.beq (Nat.mod k 2) 0)) n) f
def Tr.set {α : Type} (t : Tr α) : Nat → α → Tr α :=
  @Tr.rec α (fun _ => Nat → α → Tr α) (fun n a => Tr.single (Nat.succ n) n a)
    (fun v l r sl sr n a => @Nat.rec (fun _ => Tr α) (.node (some a) l r) (fun k _ => @Bool.rec (fun _ => Tr α) (.node v l (sr (Nat.div k 2) a)) (.node v (sl (Nat.div k 2) a) r) (Nat.beq (Nat.mod k 2) 0)) n) t

inductive AObj where
  | dead
  | cells (rw : Bool) (t : TypeId) (len : Nat) (z : List AV) (c : Tr AV)
  | map (es : List (AV × AV))

inductive TK where
  | int (k : IntKind) | bool | string | ptr (e : TypeId) | slice (e : TypeId) | array (n : Nat) (e : TypeId)
  | struct (fs : List (Nat × TypeId)) | map (k e : TypeId) | func | iface (empty : Bool) | uptr | other
structure TD where
  k : TK
  agg : Bool
  size : Nat
  bytes : Nat
  zero : List AV

structure AF where
  nt : Nat
  res : List ResultVar
  body : Code
inductive Ext where
  | same | indexByte
structure Cx where
  ty : Tr TD
  fn : Tr AF
  ext : Tr Ext
  eqt : Tr Unit   -- structs and arrays of numbers that may be compared
  dfr : Tr Unit   -- functions that do nothing when they are deferred

abbrev Env := Tr AV
structure AH where
  next : Nat
  objs : Tr AObj

def AH.get (h : AH) (o : Nat) : AObj := @Option.rec AObj (fun _ => AObj) .dead (fun x => x) (h.objs.get o)
def AH.put (h : AH) (o : Nat) (x : AObj) : AH := ⟨h.next, h.objs.set o x⟩
def AH.new (h : AH) (x : AObj) : AH := ⟨Nat.succ h.next, h.objs.set h.next x⟩

def nthZ (z : List AV) (i : Nat) : Option AV := match z with | [a] => some a | z => nth z (Nat.mod i z.length)
def cellD (z : List AV) (i : Nat) (o : Option AV) : Option AV := @Option.rec AV (fun _ => Option AV) (nthZ z i) (fun a => some a) o
def cellZ (len : Nat) (z : List AV) (c : Tr AV) (i : Nat) : Option AV := ifB (Nat.ble len i) none (cellD z i (c.get i))

def consO (o : Option AV) (r : Option (List AV)) : Option (List AV) := @Option.rec AV (fun _ => Option (List AV)) none (fun a => @Option.rec (List AV) (fun _ => Option (List AV)) none (fun l => some (a :: l)) r) o
def readZ (len : Nat) (z : List AV) (c : Tr AV) (n : Nat) : Nat → Option (List AV) :=
  @Nat.rec (fun _ => Nat → Option (List AV)) (fun _ => some []) (fun _ ih i => consO (cellZ len z c i) (ih (Nat.succ i))) n
def writeZ (l : List AV) : Nat → Tr AV → Tr AV := List.rec (fun _ c => c) (fun a _ ih i c => ih (Nat.succ i) (c.set i a)) l

def ofConst : Value → AV
  | .int k n => .int k n
  | .bool b => .bool b
  | .string s => .str s.data.toList
  | .pointer none => .nilPtr
  | .slice none _ _ => .nilSlice
  | .map none => .nilMap
  | .nilFunc => .nilFunc
  | .nilIface => .nilIface
  | _ => .tup []

def oTmp (t : Nat) (env : Env) : AV := @Option.rec AV (fun _ => AV) (.tup []) (fun a => a) (env.get t)
def oConst (v : Value) (_ : Env) : AV := ofConst v
def oGlob (g : Nat) (_ : Env) : AV := .ptr g 0
def oFunc (f : FuncId) (_ : Env) : AV := .func (.func f) [] []
def opnd (env : Env) (x : Operand) : AV := @Operand.rec (fun _ => Env → AV) oTmp oConst oGlob oFunc x env

/-- the value of one cell -/
def AV.atom (x : AV) : Bool :=
  @AV.rec (fun _ => Bool) (fun _ => PUnit) (fun _ _ => true) (fun _ => true) (fun _ _ => true) (fun _ _ _ _ => true) (fun _ _ => false) (fun _ => true) (fun _ _ => false) (fun _ _ _ _ _ => true) (fun _ _ _ => true) ⟨⟩ (fun _ _ _ _ => ⟨⟩) x
def atoms (l : List AV) : Bool := @List.rec AV (fun _ => Bool) true (fun a _ ih => ifB a.atom ih false) l
def cellsOf (a : AV) : List AV := a.onAgg [a] (fun l => l)

inductive Out where
  | fail
  | val (v : AV) (h : AH)
  | call (f : FuncId) (args : List AV)

def ofOpt (h : AH) (x : Option AV) : Out := @Option.rec AV (fun _ => Out) .fail (fun a => .val a h) x

def aggO (o : Option (List AV)) : Option AV := @Option.rec (List AV) (fun _ => Option AV) none (fun l => some (.agg l)) o
def loadC (d : TD) (i len : Nat) (z : List AV) (c : Tr AV) : Option AV := ifB d.agg (aggO (readZ len z c d.size i)) (cellZ len z c i)
def loadObj (d : TD) (i : Nat) (x : AObj) : Option AV :=
  @AObj.rec (fun _ => Option AV) none (fun _ _ len z c => loadC d i len z c) (fun _ => none) x
def loadA (d : TD) (h : AH) (p : AV) : Option AV :=
  p.onPtr none (fun o i => loadObj d i (h.get o))

def storeC (h : AH) (o i : Nat) (l : List AV) (rw : Bool) (t len : Nat) (z : List AV) (c : Tr AV) : Option AH :=
  ifB rw (ifB (Nat.ble (Nat.add i l.length) len) (ifB (atoms l) (some (h.put o (.cells true t len z (writeZ l i c)))) none) none) none
def storeObj (h : AH) (o i : Nat) (l : List AV) (x : AObj) : Option AH :=
  @AObj.rec (fun _ => Option AH) none (fun rw t len z c => storeC h o i l rw t len z c) (fun _ => none) x
def storeA (d : TD) (h : AH) (v p : AV) : Option AH :=
  p.onPtr none (fun o i => ifB (Nat.beq (cellsOf v).length d.size) (storeObj h o i (cellsOf v) (h.get o)) none)

/-! ### numbers -/
def kLim (k : IntKind) : Nat := @IntKind.rec (fun _ => Nat) 128 32768 2147483648 9223372036854775808 128 32768 2147483648 9223372036854775808 k
def wrapF (k : IntKind) (n : Int) : Int := @Int.rec (fun _ => Int) (fun m => ifB (Nat.blt m (kLim k)) (.ofNat m) (k.wrap (.ofNat m))) (fun m => k.wrap (.negSucc m)) n
def iLt (a b : Int) : Bool :=
  @Int.rec (fun _ => Bool) (fun m => @Int.rec (fun _ => Bool) (fun n => Nat.blt m n) (fun _ => false) b) (fun m => @Int.rec (fun _ => Bool) (fun _ => true) (fun n => Nat.blt n m) b) a
def iEq (a b : Int) : Bool :=
  @Int.rec (fun _ => Bool) (fun m => @Int.rec (fun _ => Bool) (fun n => Nat.beq m n) (fun _ => false) b) (fun m => @Int.rec (fun _ => Bool) (fun _ => false) (fun n => Nat.beq m n) b) a
/-- a number, its value laid out -/
def mkInt (k : IntKind) (n : Int) : Option AV :=
  @Int.rec (fun _ => Option AV) (fun m => @Nat.rec (fun _ => Option AV) (some (.int k (.ofNat 0))) (fun j _ => some (.int k (.ofNat (Nat.succ j)))) m) (fun m => @Nat.rec (fun _ => Option AV) (some (.int k (.negSucc 0))) (fun j _ => some (.int k (.negSucc (Nat.succ j)))) m) n
def mkBool (b : Bool) : Option AV := @Bool.rec (fun _ => Option AV) (some (.bool false)) (some (.bool true)) b

def addF (a b : Int) : Int := @Int.rec (fun _ => Int) (fun m => @Int.rec (fun _ => Int) (fun n => .ofNat (Nat.add m n)) (fun n => Int.add (.ofNat m) (.negSucc n)) b) (fun m => Int.add (.negSucc m) b) a
def subF (a b : Int) : Int := @Int.rec (fun _ => Int) (fun m => @Int.rec (fun _ => Int) (fun n => ifB (Nat.ble n m) (.ofNat (Nat.sub m n)) (.negSucc (Nat.sub (Nat.sub n m) 1))) (fun n => Int.sub (.ofNat m) (.negSucc n)) b) (fun m => Int.sub (.negSucc m) b) a
abbrev I2 := IntKind → Int → Int → Option AV
def iNone : I2 := fun _ _ _ => none
def iAdd : I2 := fun k a b => mkInt k (wrapF k (addF a b))
def iSub : I2 := fun k a b => mkInt k (wrapF k (subF a b))
def iMul : I2 := fun k a b => mkInt k (wrapF k (Int.mul a b))
/-- two numbers that are no less than 0 and small: a shorter way -/
def fastB (k : IntKind) (a b : Int) (f : Nat → Nat → Int) (slow : Option AV) : Option AV :=
  @Int.rec (fun _ => Option AV) (fun m => @Int.rec (fun _ => Option AV) (fun n => ifB (Nat.blt m (kLim k)) (ifB (Nat.blt n (kLim k)) (mkInt k (f m n)) slow) slow) (fun _ => slow) b) (fun _ => slow) a
def iQuoS (k : IntKind) (a b : Int) : Option AV := mkInt k (wrapF k (a.tdiv b))
def iQuo : I2 := fun k a b => ifB (iEq b (.ofNat 0)) none (fastB k a b (fun m n => .ofNat (Nat.div m n)) (iQuoS k a b))
def iRemS (k : IntKind) (a b : Int) : Option AV := mkInt k (a.tmod b)
def iRem : I2 := fun k a b => ifB (iEq b (.ofNat 0)) none (fastB k a b (fun m n => .ofNat (Nat.mod m n)) (iRemS k a b))
def iAndS (k : IntKind) (a b : Int) : Option AV := mkInt k (k.wrap (BitVec.ofInt k.bits a &&& BitVec.ofInt k.bits b).toNat)
def iAnd : I2 := fun k a b => fastB k a b (fun m n => .ofNat (Nat.land m n)) (iAndS k a b)
def iOrS (k : IntKind) (a b : Int) : Option AV := mkInt k (k.wrap (BitVec.ofInt k.bits a ||| BitVec.ofInt k.bits b).toNat)
def iOr : I2 := fun k a b => fastB k a b (fun m n => .ofNat (Nat.lor m n)) (iOrS k a b)
def iXorS (k : IntKind) (a b : Int) : Option AV := mkInt k (k.wrap (BitVec.ofInt k.bits a ^^^ BitVec.ofInt k.bits b).toNat)
def iXor : I2 := fun k a b => fastB k a b (fun m n => .ofNat (Nat.xor m n)) (iXorS k a b)
def iAndNot : I2 := fun k a b => mkInt k (k.wrap (BitVec.ofInt k.bits a &&& ~~~ BitVec.ofInt k.bits b).toNat)
def iEql : I2 := fun _ a b => mkBool (iEq a b)
def iNeq : I2 := fun _ a b => mkBool (not (iEq a b))
def iLss : I2 := fun _ a b => mkBool (iLt a b)
def iLeq : I2 := fun _ a b => mkBool (not (iLt b a))
def iGtr : I2 := fun _ a b => mkBool (iLt b a)
def iGeq : I2 := fun _ a b => mkBool (not (iLt a b))
def iShl : I2 := fun k a b => ifB (iLt b (.ofNat 0)) none (mkInt k (k.wrap (a * 2 ^ (min b.toNat k.bits))))
def iShrS (k : IntKind) (a b : Int) : Option AV := mkInt k (a.fdiv (2 ^ (min b.toNat k.bits)))
def iShr : I2 := fun k a b => @Int.rec (fun _ => Option AV) (fun n => @Int.rec (fun _ => Option AV) (fun m => ifB (Nat.ble n (k.bits)) (mkInt k (.ofNat (Nat.shiftRight m n))) (iShrS k a b)) (fun _ => iShrS k a b) a) (fun _ => none) b
def intOp (op : BinOp) : I2 :=
  @BinOp.rec (fun _ => I2) iAdd iSub iMul iQuo iRem iAnd iOr iXor iShl iShr iAndNot iEql iNeq iLss iLeq iGtr iGeq op

def strOp (op : BinOp) (x y : List UInt8) : Option AV :=
  match op with
  | .add => ifB (Nat.ble (Nat.add x.length y.length) 1099511627776) (some (.str (x ++ y))) none
  | .eql => mkBool (x == y)
  | .neq => mkBool (not (x == y))
  | .lss => mkBool (Op.bytesLess x y)
  | .leq => mkBool (Op.bytesLess x y || x == y)
  | .gtr => mkBool (not (Op.bytesLess x y || x == y))
  | .geq => mkBool (not (Op.bytesLess x y))
  | _ => none

def kNum (a : IntKind) : Nat := @IntKind.rec (fun _ => Nat) 0 1 2 3 4 5 6 7 a
/-- '==' of two values, where it can be told -/
def eqvI (a b : AV) : Option Bool := a.onInt none (fun k m => b.onInt none (fun k' n => ifB (Nat.beq (kNum k) (kNum k')) (some (iEq m n)) none))
def eqvL : List AV → List AV → Option Bool
  | [], [] => some true
  | a :: l, b :: m => match eqvI a b with
    | some true => eqvL l m
    | some false => some false
    | none => none
  | _, _ => none
def eqPtr (d : Option TD) (x y : AV) : Option Bool :=
  match x with
  | .oth .nilPtr => (match y with | .oth .nilPtr => some true | .ptr _ _ => some false | _ => none)
  | .ptr o i => (match y with
    | .oth .nilPtr => some false
    | .ptr o' i' => ifB (Nat.beq o o') (match d with | some d => ifB (Nat.beq d.size 0) none (some (Nat.beq i i')) | none => none) none
    | _ => none)
  | _ => none
def eqSl (x y : AV) : Option Bool :=
  match x with
  | .oth .nilSlice => (match y with | .oth .nilSlice => some true | .slice .. => some false | _ => none)
  | .slice .. => (match y with | .oth .nilSlice => some false | _ => none)
  | _ => none
def eqAg (size : Nat) (x y : AV) : Option Bool :=
  x.onAgg none (fun l => y.onAgg none (fun m => ifB (Nat.beq l.length size) (ifB (Nat.beq m.length size) (eqvL l m) none) none))
def eqK (cx : Cx) (t : TypeId) (k : TK) (agg : Bool) (size : Nat) (x y : AV) : Option Bool :=
  match k with
  | .bool => x.onBool none (fun a => y.onBool none (fun b => some (a == b)))
  | .ptr e => eqPtr (cx.ty.get e) x y
  | .slice _ => eqSl x y
  | _ => ifB agg (match cx.eqt.get t with | some _ => eqAg size x y | none => none) none
def eqT (cx : Cx) (t : TypeId) (x y : AV) : Option Bool :=
  match cx.ty.get t with
  | some d => eqK cx t d.k d.agg d.size x y
  | none => none
def binO (cx : Cx) (t : TypeId) (op : BinOp) (x y : AV) : Option AV :=
  match op with
  | .eql => (match eqT cx t x y with | some b => mkBool b | none => none)
  | .neq => (match eqT cx t x y with | some b => mkBool (not b) | none => none)
  | _ => none
def isShift (op : BinOp) : Bool := @BinOp.rec (fun _ => Bool) false false false false false false false false true true false false false false false false false op
def binI (op : BinOp) (k : IntKind) (a : Int) (k' : IntKind) (b : Int) : Option AV :=
  ifB (Nat.beq (kNum k) (kNum k')) (intOp op k a b) (ifB (isShift op) (intOp op k a b) none)
def binX (cx : Cx) (t : TypeId) (op : BinOp) (x : AX) (y : AV) : Option AV := match x with
  | .str a => (match y with | .oth (.str b) => strOp op a b | _ => none)
  | x => binO cx t op (.oth x) y
def binA (cx : Cx) (t : TypeId) (op : BinOp) (x y : AV) : Option AV :=
  x.onNum (fun x => binO cx t op x y) (fun k a => y.onInt none (fun k' b => binI op k a k' b)) (fun x => binX cx t op x y)

def unA (op : UnOp) (x : AV) : Option AV :=
  match op with
  | .not => x.onBool none (fun b => mkBool (not b))
  | .neg => x.onInt none (fun k n => mkInt k (wrapF k (subF (.ofNat 0) n)))
  | .xor => x.onInt none (fun k n => iXor k (if k.signed then -1 else k.max) n)
  | .plus => none

/-! ### slices -/
def boundA (n : Nat) (x : Option AV) (dflt : Nat) : Option Nat :=
  match x with
  | none => some dflt
  | some (.int _ (.ofNat i)) => ifB (Nat.ble i n) (some i) none
  | _ => none

def fillA (place : Nat → Option (Nat × Nat)) (len : Nat) (ps : List (Nat × AV)) : Tr AV → Option (Tr AV) :=
  List.rec (fun c => some c) (fun p _ ih c => match place p.1 with
    | none => none
    | some q => ifB (Nat.beq (cellsOf p.2).length q.2) (ifB (Nat.ble (Nat.add q.1 q.2) len) (ih (writeZ (cellsOf p.2) q.1 c)) none) none) ps

def sameK (k k' : AV) : Option Bool :=
  match k with
  | .int j a => (match k' with | .int j' b => ifB (Nat.beq (kNum j) (kNum j')) (some (iEq a b)) none | _ => none)
  | .oth (.str a) => (match k' with | .oth (.str b) => some (a == b) | _ => none)
  | _ => none
def findA (k : AV) : List (AV × AV) → Option (Option AV)
  | [] => some none
  | p :: es => match sameK k p.1 with
    | some true => some (some p.2)
    | some false => findA k es
    | none => none
def putA (k v : AV) : List (AV × AV) → List (AV × AV)
  | [] => [(k, v)]
  | p :: es => match sameK k p.1 with
    | some true => (k, v) :: es
    | _ => p :: putA k v es

def mx : Nat := 1099511627776

def newRow (d : TD) (e : TypeId) (h : AH) (l : List AV) (n : Nat) : Out :=
  ifB (Nat.ble n mx) (ifB (Nat.ble (Nat.mul n d.bytes) mx) (ifB (Nat.beq d.size 0) .fail (.val (.slice h.next 0 n (.op d.size)) (h.new (.cells true e l.length d.zero (writeZ l 0 .leaf))))) .fail) .fail
/-- the row is moved: its old name is gone -/
def moveRow (d : TD) (e : TypeId) (h : AH) (o n : Nat) (new : List AV) (m len : Nat) (z : List AV) (c : Tr AV) : Out :=
  ifB (Nat.beq len (Nat.mul n d.size))
    (.val (.slice h.next 0 (Nat.add n m) (.op d.size)) ((h.new (.cells true e (Nat.add len new.length) z (writeZ new len c))).put o .dead))
    (match readZ len z c (Nat.mul n d.size) 0 with
      | some old => .val (.slice h.next 0 (Nat.add n m) (.op d.size)) ((h.new (.cells true e (old ++ new).length d.zero (writeZ (old ++ new) 0 .leaf))).put o .dead)
      | none => .fail)
def appendE (d : TD) (e : TypeId) (h : AH) (o i n cap : Nat) (new : List AV) (m : Nat) (rw : Bool) (t len : Nat) (z : List AV) (c : Tr AV) : Out :=
  ifB (Nat.ble (Nat.add n m) cap)
    (ifB rw (ifB (Nat.ble (Nat.add i (Nat.mul (Nat.add n m) d.size)) len) (ifB (atoms new) (.val (.slice o i (Nat.add n m) (.ex cap)) (h.put o (.cells true t len z (writeZ new (Nat.add i (Nat.mul n d.size)) c)))) .fail) .fail) .fail)
    (match readZ len z c (Nat.mul n d.size) i with
      | some old => newRow d e h (old ++ new) (Nat.add n m)
      | none => .fail)
def appendP (d : TD) (e : TypeId) (h : AH) (o i n s : Nat) (new : List AV) (m : Nat) (rw : Bool) (t len : Nat) (z : List AV) (c : Tr AV) : Out :=
  ifB rw (ifB (Nat.beq t e) (ifB (Nat.beq s d.size) (ifB (atoms new) (ifB (Nat.beq d.size 0) .fail
    (ifB (Nat.ble (Nat.add i (Nat.mul (Nat.add n m) d.size)) len)
      (.val (.slice o i (Nat.add n m) (.op s)) (h.put o (.cells true t len z (writeZ new (Nat.add i (Nat.mul n d.size)) c))))
      (ifB (Nat.ble (Nat.add n m) mx) (ifB (Nat.ble (Nat.mul (Nat.add n m) d.bytes) mx) (ifB (Nat.beq i 0) (moveRow d e h o n new m len z c) .fail) .fail) .fail))) .fail) .fail) .fail) .fail
/-- append to what an object holds -/
def appendO (d : TD) (e : TypeId) (h : AH) (o i n : Nat) (cap : Cap) (new : List AV) (m : Nat) (x : AObj) : Out :=
  @AObj.rec (fun _ => Out) .fail (fun rw t len z c => match cap with
    | .ex k => appendE d e h o i n k new m rw t len z c
    | .op s => appendP d e h o i n s new m rw t len z c) (fun _ => .fail) x
def appendN (d : TD) (e : TypeId) (h : AH) (new : List AV) (m : Nat) : Out :=
  ifB (Nat.beq m 0) (.val (.oth .nilSlice) h) (newRow d e h new m)
def appendA (d : TD) (e : TypeId) (h : AH) (s : AV) (new : List AV) (m : Nat) : Out :=
  match s with
  | .oth .nilSlice => appendN d e h new m
  | .slice o i n c => appendO d e h o i n c new m (h.get o)
  | _ => .fail

def sliceCells (h : AH) (size : Nat) (x : AV) : Option (List AV × Nat) :=
  match x with
  | .oth .nilSlice => some ([], 0)
  | .slice o i n _ => (match h.get o with
    | .cells _ _ len z c => (match readZ len z c (n * size) i with | some l => some (l, n) | none => none)
    | _ => none)
  | .oth (.str s) => ifB (Nat.beq size 1) (some (s.map fun b => .int .u8 b.toNat, s.length)) none
  | _ => none

def elemTD (cx : Cx) (t : TypeId) : Option (TypeId × TD) :=
  match cx.ty.get t with
  | some ⟨.slice e, _, _, _, _⟩ => (match cx.ty.get e with | some d => some (e, d) | none => none)
  | _ => none

def lenK (cx : Cx) (k : TK) (h : AH) (x : AV) : Option AV :=
  match k with
  | .string => (match x with | .oth (.str s) => mkInt .i64 (.ofNat s.length) | _ => none)
  | .slice _ => (match x with | .slice _ _ n _ => mkInt .i64 (.ofNat n) | .oth .nilSlice => some (.int .i64 (.ofNat 0)) | _ => none)
  | .map _ _ => (match x with
    | .oth .nilMap => some (.int .i64 (.ofNat 0))
    | .oth (.map o) => (match h.get o with
      | .map es => mkInt .i64 (.ofNat es.length)
      | _ => none)
    | _ => none)
  | .array n _ => mkInt .i64 (.ofNat n)
  | .ptr a => (match cx.ty.get a with
    | some ⟨.array n _, _, _, _, _⟩ => mkInt .i64 (.ofNat n)
    | _ => none)
  | _ => none
def lenA (cx : Cx) (t : TypeId) (h : AH) (x : AV) : Option AV :=
  match cx.ty.get t with
  | some d => lenK cx d.k h x
  | none => none
def capA (cx : Cx) (t : TypeId) (x : AV) : Option AV :=
  match elemTD cx t with
  | some _ => (match x with
    | .oth .nilSlice => some (.int .i64 (.ofNat 0))
    | .slice _ _ _ (.ex c) => mkInt .i64 (.ofNat c)
    | _ => none)
  | none => none
def dataA (h : AH) (x : AV) : Out :=
  match x with
  | .slice o i _ (.op z) => (match h.get o with
    | .cells true _ len _ _ => ifB (Nat.beq z 0) .fail (ifB (Nat.ble (Nat.add i z) len) (.val (.ptr o i) h) .fail)
    | _ => .fail)
  | _ => .fail
def newsA (h : AH) (d : TD) (k : TK) (x : AV) : Option (List AV × Nat) :=
  match k with
  | .int _ => (match x with
    | .int _ (.ofNat n) => ifB (Nat.ble n mx) (ifB (Nat.ble (n * d.bytes) mx) (match readZ (n * d.size) d.zero .leaf (n * d.size) 0 with | some l => some (l, n) | none => none) none) none
    | _ => none)
  | .slice _ => (match x with
    | .oth (.str _) => none
    | x => sliceCells h d.size x)
  | .string => (match x with
    | .oth (.str _) => sliceCells h d.size x
    | _ => none)
  | _ => none
def appA (cx : Cx) (t u : TypeId) (h : AH) (s x : AV) : Out :=
  match elemTD cx t with
  | some (e, d) => (match cx.ty.get u with
    | some du => (match newsA h d du.k x with
      | some (c, m) => appendA d e h s c m
      | none => .fail)
    | none => .fail)
  | none => .fail
def copyA (cx : Cx) (t : TypeId) (h : AH) (d x : AV) : Out :=
  match elemTD cx t with
  | some (e, td) => (match sliceCells h td.size x with
    | some (c, m) => (match d with
      | .oth .nilSlice => .val (.int .i64 (.ofNat 0)) h
      | .slice o i n _ => (match storeObj h o i (c.take (min m n * td.size)) (h.get o) with
        | some h' => ofOpt h' (mkInt .i64 (.ofNat (min m n)))
        | none => .fail)
      | _ => .fail)
    | none => .fail)
  | none => .fail
def byteOf (a : AV) : Option UInt8 := match a with
  | .int .u8 (.ofNat b) => ifB (Nat.blt b 256) (some (UInt8.ofNat b)) none
  | _ => none
def bytesOf (l : List AV) : Option (List UInt8) := @List.rec AV (fun _ => Option (List UInt8)) (some []) (fun a _ ih => match byteOf a with | none => none | some b => (match ih with | none => none | some r => some (b :: r))) l
def unsStr (h : AH) (o n : Nat) (d : TD) (e : TypeId) (x : AObj) : Out :=
  match x with
  | .cells true t len z c => ifB (Nat.beq t e) (ifB (Nat.beq d.size 1) (match readZ len z c n 0 with
      | some l => (match bytesOf l with
        | some s => .val (.oth (.str s)) (h.put o .dead)
        | none => .fail)
      | none => .fail) .fail) .fail
  | _ => .fail
def unsStrP (cx : Cx) (t : TypeId) (h : AH) (p : AV) (n : Nat) : Out :=
  match p with
  | .ptr o i => ifB (Nat.beq i 0) (match cx.ty.get t with
    | some ⟨.ptr e, _, _, _, _⟩ => (match cx.ty.get e with
      | some d => unsStr h o n d e (h.get o)
      | none => .fail)
    | _ => .fail) .fail
  | _ => .fail
def unsafeStrA (cx : Cx) (t : TypeId) (h : AH) (p n : AV) : Out :=
  match n with
  | .int .i64 (.ofNat n) => ifB (Nat.ble n mx) (ifB (Nat.beq n 0) .fail (unsStrP cx t h p n)) .fail
  | _ => .fail
def maxA (h : AH) (x : AV) (rest : List AV) : Out :=
  match rest with
  | [y] => x.onInt .fail (fun k a => y.onInt .fail (fun _ b => .val (.int k (ifB (iLt a b) b a)) h))
  | _ => .fail
def builtin2 (cx : Cx) (b : Builtin) (t : TypeId) (ts : List TypeId) (h : AH) (x : AV) (rest : List AV) : Out :=
  match b with
  | .len => ofOpt h (lenA cx t h x)
  | .append => (match rest with | [y] => (match ts with | [u] => appA cx t u h x y | _ => .fail) | _ => .fail)
  | .cap => ofOpt h (capA cx t x)
  | .copy => (match rest with | [y] => copyA cx t h x y | _ => .fail)
  | .max => maxA h x rest
  | .unsafeSliceData => (match rest with | [] => dataA h x | _ => .fail)
  | .unsafeString => (match rest with | [n] => (match ts with | [_] => unsafeStrA cx t h x n | _ => .fail) | _ => .fail)
  | _ => .fail
def builtinA (cx : Cx) (b : Builtin) (ts : Array TypeId) (h : AH) (args : List AV) : Out :=
  match args with
  | [] => .fail
  | x :: rest => (match ts.toList with | [] => .fail | t :: ts => builtin2 cx b t ts h x rest)

def knownTop (x : AObj) (i n size : Nat) : Option Nat :=
  match x with
  | .cells true _ len _ _ => some ((len - i) / size)
  | _ => none
def sliceS (h : AH) (size : Nat) (o i n : Nat) (c : Cap) (lo hi : Option AV) : Option AV :=
  match c with
  | .ex c => none
  | .op z => ifB (Nat.beq z size) (ifB (Nat.beq z 0) none (match knownTop (h.get o) i n size with
    | none => none
    | some top => (match boundA top hi n with
      | none => none
      | some e => (match boundA e lo 0 with
        | none => none
        | some b => ifB (Nat.beq b 0 || Nat.blt b top) (some (.slice o (i + b * size) (e - b) (.op z))) none)))) none
def sliceK (h : AH) (d : Option TD) (x : AV) (lo hi : Option AV) : Option AV :=
  match d with
  | none => none
  | some d => (match x with
    | .oth .nilSlice => (match boundA 0 hi 0 with
      | none => none
      | some e => (match boundA e lo 0 with
        | none => none
        | some _ => some .nilSlice))
    | .slice o i n c => sliceS h d.size o i n c lo hi
    | _ => none)
def sliceA (cx : Cx) (t : TypeId) (h : AH) (x : AV) (lo hi : Option AV) : Option AV :=
  match cx.ty.get t with
  | some ⟨.string, _, _, _, _⟩ => (match x with
    | .oth (.str s) => (match boundA s.length hi s.length with
      | none => none
      | some e => (match boundA e lo 0 with
        | none => none
        | some b => some (.str ((s.take e).drop b))))
    | _ => none)
  | some ⟨.slice e, _, _, _, _⟩ => sliceK h (cx.ty.get e) x lo hi
  | _ => none

/-! ### operations -/
def xPick (env : Env) (h : AH) (c a b : Operand) : Out :=
  (opnd env c).onBool .fail (fun t => @Bool.rec (fun _ => Out) (.val (opnd env b) h) (.val (opnd env a) h) t)
def xAlloc (cx : Cx) (h : AH) (e : TypeId) : Out :=
  match cx.ty.get e with
  | some d => .val (.ptr h.next 0) (h.new (.cells true e d.size d.zero .leaf))
  | none => .fail
def xBox (h : AH) (e : TypeId) (a : AV) : Out :=
  .val (.ptr h.next 0) (h.new (.cells true e (cellsOf a).length [] (writeZ (cellsOf a) 0 .leaf)))
def partsA (env : Env) (l : List (Nat × Operand)) : List (Nat × AV) := l.map fun p => (p.1, opnd env p.2)
def aggOf (n : Nat) (z : List AV) (c : Option (Tr AV)) : Option AV :=
  match c with
  | none => none
  | some c => (match readZ n z c n 0 with | some l => some (.agg l) | none => none)
def xBuild (cx : Cx) (env : Env) (t : TypeId) (parts : Array (Nat × Operand)) : Option AV :=
  match cx.ty.get t with
  | some ⟨k, _, size, _, zero⟩ => (match k with
    | .struct fs => aggOf size zero (fillA (fun i => match nth fs i with | some f => (match cx.ty.get f.2 with | some td => some (f.1, td.size) | none => none) | none => none) size (partsA env parts.toList) .leaf)
    | .array _ e => (match cx.ty.get e with
      | some td => aggOf size zero (fillA (fun i => some (i * td.size, td.size)) size (partsA env parts.toList) .leaf)
      | none => none)
    | _ => none)
  | none => none
def xBuildSlice (cx : Cx) (env : Env) (h : AH) (t : TypeId) (len : Nat) (parts : Array (Nat × Operand)) : Out :=
  match elemTD cx t with
  | some (e, td) =>
    ifB (Nat.ble 1048576 (len * td.size)) .fail
    (match fillA (fun i => some (i * td.size, td.size)) (len * td.size) (partsA env parts.toList) .leaf with
    | some c => .val (.slice h.next 0 len (.ex len)) (h.new (.cells true e (len * td.size) td.zero c))
    | none => .fail)
  | none => .fail
def xLoad (cx : Cx) (h : AH) (t : TypeId) (p : AV) : Out :=
  @Option.rec TD (fun _ => Out) .fail (fun d => ofOpt h (loadA d h p)) (cx.ty.get t)
def xStore (cx : Cx) (h : AH) (t : TypeId) (p a : AV) : Out :=
  match cx.ty.get t with
  | some d => (match storeA d h a p with
    | some h' => .val (.tup []) h'
    | none => .fail)
  | none => .fail
def xNil (h : AH) (a : AV) : Out := a.onPtr .fail (fun o i => .val (.ptr o i) h)
def alive (h : AH) (x : AV) : Option AV :=
  x.onPtr none (fun o i => match h.get o with
    | .cells _ _ len _ _ => ifB (Nat.blt i len) (some x) none
    | _ => none)
def aliveAs (h : AH) (u : TypeId) (d : TD) (x : AV) : Option AV :=
  x.onPtr none (fun o i => ifB (Nat.beq i 0) (match h.get o with
    | .cells true t len _ _ => ifB (Nat.beq t u) (ifB (Nat.ble d.size len) (ifB (Nat.beq d.size 0) none (some x)) none) none
    | _ => none) none)
def xConvert (cx : Cx) (h : AH) (s d : TypeId) (x : AV) : Out :=
  match cx.ty.get d with
  | some ⟨.int k, _, _, _, _⟩ => (match cx.ty.get s with
    | some _ => x.onInt .fail (fun _ n => ofOpt h (mkInt k (wrapF k n)))
    | none => .fail)
  | some ⟨.uptr, _, _, _, _⟩ => (match cx.ty.get s with
    | some ⟨.ptr t, _, _, _, _⟩ => (match cx.ty.get t with
      | some td => ifB (Nat.beq td.size 0) .fail (ofOpt h (alive h x))
      | none => .fail)
    | _ => .fail)
  | some ⟨.ptr u, _, _, _, _⟩ => (match cx.ty.get s with
    | some ⟨.uptr, _, _, _, _⟩ => (match cx.ty.get u with
      | some td => ofOpt h (aliveAs h u td x)
      | none => .fail)
    | _ => .fail)
  | _ => .fail
def xMakeSlice (cx : Cx) (h : AH) (t : TypeId) (l c : AV) : Out :=
  match elemTD cx t with
  | some (e, td) => (match l, c with
    | .int _ (.ofNat n), .int _ (.ofNat m) => ifB (Nat.ble n m) (ifB (Nat.ble m mx) (ifB (Nat.ble (Nat.mul m td.bytes) mx) (.val (.slice h.next 0 n (.ex m)) (h.new (.cells true e (Nat.mul m td.size) td.zero .leaf))) .fail) .fail) .fail
    | _, _ => .fail)
  | none => .fail
def optOp (env : Env) (x : Option Operand) : Option AV := match x with | some y => some (opnd env y) | none => none
def xSlice (cx : Cx) (env : Env) (h : AH) (t : TypeId) (x : Operand) (lo hi m : Option Operand) : Out :=
  match m with
  | some _ => .fail
  | none => ofOpt h (sliceA cx t h (opnd env x) (optOp env lo) (optOp env hi))
def fldA (h : AH) (x : AV) (p : Option (Nat × TypeId)) : Out :=
  @Option.rec (Nat × TypeId) (fun _ => Out) .fail (fun p => x.onPtr .fail (fun o i => .val (.ptr o (Nat.add i p.1)) h)) p
def fldOf (d : Option TD) (f : Nat) : Option (Nat × TypeId) :=
  match d with
  | some ⟨.struct fs, _, _, _, _⟩ => nth fs f
  | _ => none
def xFieldAddr (cx : Cx) (h : AH) (s : TypeId) (x : AV) (f : Nat) : Out := fldA h x (fldOf (cx.ty.get s) f)
def ixE (h : AH) (o i n j : Nat) (d : Option (TypeId × TD)) : Out := @Option.rec (TypeId × TD) (fun _ => Out) .fail (fun d => ifB (Nat.blt j n) (.val (.ptr o (Nat.add i (Nat.mul j d.2.size))) h) .fail) d
def ixA (cx : Cx) (h : AH) (o i j : Nat) (d : Option TD) : Out :=
  match d with
  | some ⟨.array n e, _, _, _, _⟩ => (match cx.ty.get e with
    | some td => ifB (Nat.blt j n) (.val (.ptr o (Nat.add i (Nat.mul j td.size))) h) .fail
    | none => .fail)
  | _ => .fail
def ixJ (cx : Cx) (h : AH) (t : TypeId) (x : AV) (j : Nat) : Out :=
  x.onRef .fail (fun o i => ixA cx h o i j (cx.ty.get t)) (fun o i n _ => ixE h o i n j (elemTD cx t))
def xIndexAddr (cx : Cx) (h : AH) (t : TypeId) (x ix : AV) : Out :=
  ix.onInt .fail (fun _ j => @Int.rec (fun _ => Out) (fun j => ixJ cx h t x j) (fun _ => .fail) j)
def partA (d : TD) (l : List AV) (off : Nat) : Option AV := ifB d.agg (some (.agg ((l.drop off).take d.size))) (nth l off)
def xIndex (cx : Cx) (h : AH) (t : TypeId) (x ix : AV) : Out :=
  match ix with
  | .int _ (.ofNat j) => (match cx.ty.get t with
    | some ⟨.string, _, _, _, _⟩ => (match x with
      | .oth (.str s) => (match nth s j with | some b => ofOpt h (mkInt .u8 (.ofNat b.toNat)) | none => .fail)
      | _ => .fail)
    | some ⟨.array n e, _, _, _, _⟩ => (match x with
      | .agg l => (match cx.ty.get e with
        | some td => ifB (Nat.blt j n) (ifB (Nat.beq l.length (Nat.mul n td.size)) (ofOpt h (partA td l (Nat.mul j td.size))) .fail) .fail
        | none => .fail)
      | _ => .fail)
    | _ => .fail)
  | _ => .fail
def zeroA (d : TD) : Option AV := ifB d.agg none d.zero.head?
def entries (h : AH) (m : AV) : Option (List (AV × AV)) :=
  match m with
  | .oth .nilMap => some []
  | .oth (.map o) => (match h.get o with | .map es => some es | _ => none)
  | _ => none
def keyIs (d : Option TD) (k : AV) : Bool :=
  match d with
  | some ⟨.int j, _, _, _, _⟩ => (match k with | .int j' _ => Nat.beq (kNum j) (kNum j') | _ => false)
  | some ⟨.string, _, _, _, _⟩ => (match k with | .oth (.str _) => true | _ => false)
  | _ => false
def xLookup (cx : Cx) (h : AH) (t : TypeId) (m k : AV) (ok : Bool) : Out :=
  match cx.ty.get t with
  | some ⟨.map kt e, _, _, _, _⟩ => ifB (keyIs (cx.ty.get kt) k) (match cx.ty.get e with
    | none => .fail
    | some td => (match entries h m with
      | none => .fail
      | some es => (match findA k es with
        | none => .fail
        | some none => (match zeroA td with | none => .fail | some z => .val (ifB ok (.tup [z, .bool false]) z) h)
        | some (some x) => .val (ifB ok (.tup [x, .bool true]) x) h))) .fail
  | _ => .fail
def updE (h : AH) (o : Nat) (k x : AV) (y : AObj) : Out :=
  match y with
  | .map es => (match findA k es with
    | none => .fail
    | some _ => .val (.tup []) (h.put o (.map (putA k x es))))
  | _ => .fail
def xUpdate (cx : Cx) (h : AH) (t : TypeId) (m k x : AV) : Out :=
  match m with
  | .oth (.map o) => (match cx.ty.get t with
    | some ⟨.map kt _, _, _, _, _⟩ => ifB (keyIs (cx.ty.get kt) k) (updE h o k x (h.get o)) .fail
    | _ => .fail)
  | _ => .fail
def argsA (env : Env) (l : List Operand) : List AV := List.rec [] (fun x _ ih => opnd env x :: ih) l
def xCall (cx : Cx) (env : Env) (h : AH) (c : Call) : Out :=
  match c with
  | ⟨cal, args, ts⟩ => (match cal with
    | .value f => (match opnd env f with
      | .func (.func g) fs cs => .call g (fs ++ (argsA env args.toList ++ cs))
      | _ => .fail)
    | .builtin b => builtinA cx b ts h (argsA env args.toList)
    | _ => .fail)

abbrev X := Cx → Env → AH → Out
def eFail : X := fun _ _ _ => .fail
def eMove (x : Operand) : X := fun _ env h => .val (opnd env x) h
def ePick (c a b : Operand) : X := fun _ env h => xPick env h c a b
def eAlloc (e : TypeId) : X := fun cx _ h => xAlloc cx h e
def eBox (e : TypeId) (x : Operand) : X := fun _ env h => xBox h e (opnd env x)
def eBuild (t : TypeId) (parts : Array (Nat × Operand)) : X := fun cx env h => ofOpt h (xBuild cx env t parts)
def eBuildSlice (t : TypeId) (len : Nat) (parts : Array (Nat × Operand)) : X := fun cx env h => xBuildSlice cx env h t len parts
def eLoad (t : TypeId) (a : Operand) : X := fun cx env h => xLoad cx h t (opnd env a)
def eStore (t : TypeId) (a x : Operand) : X := fun cx env h => xStore cx h t (opnd env a) (opnd env x)
def eNil (x : Operand) : X := fun _ env h => xNil h (opnd env x)
def eBin (op : BinOp) (t : TypeId) (x y : Operand) (_ : TypeId) : X := fun cx env h => ofOpt h (binA cx t op (opnd env x) (opnd env y))
def eUn (op : UnOp) (_t : TypeId) (x : Operand) : X := fun _ env h => ofOpt h (unA op (opnd env x))
def eConvert (s d : TypeId) (x : Operand) : X := fun cx env h => xConvert cx h s d (opnd env x)
def eFunc (f : Fn) (fs cs : Array Operand) : X := fun _ env h => .val (.func f (argsA env fs.toList) (argsA env cs.toList)) h
def eMap (_ : TypeId) (_ : Option Operand) : X := fun _ _ h => .val (.map h.next) (h.new (.map []))
def eMakeSlice (t : TypeId) (l c : Operand) : X := fun cx env h => xMakeSlice cx h t (opnd env l) (opnd env c)
def eSlice (t : TypeId) (x : Operand) (lo hi m : Option Operand) : X := fun cx env h => xSlice cx env h t x lo hi m
def eFieldAddr (s : TypeId) (x : Operand) (f : Nat) : X := fun cx env h => xFieldAddr cx h s (opnd env x) f
def eIndexAddr (t : TypeId) (x ix : Operand) : X := fun cx env h => xIndexAddr cx h t (opnd env x) (opnd env ix)
def eIndex (t : TypeId) (x ix : Operand) : X := fun cx env h => xIndex cx h t (opnd env x) (opnd env ix)
def eLookup (t : TypeId) (x ix : Operand) (ok : Bool) : X := fun cx env h => xLookup cx h t (opnd env x) (opnd env ix) ok
def eUpdate (t : TypeId) (m k x : Operand) : X := fun cx env h => xUpdate cx h t (opnd env m) (opnd env k) (opnd env x)
def xExtract (h : AH) (a : AV) (i : Nat) : Out := match a with | .tup l => ofOpt h (nth l i) | _ => .fail
def eExtract (t : Operand) (i : Nat) : X := fun _ env h => xExtract h (opnd env t) i
def eCall (c : Call) : X := fun cx env h => xCall cx env h c
def xDefer (cx : Cx) (h : AH) (a : AV) : Out :=
  match a with
  | .func (.func g) _ _ => (match cx.dfr.get g with | some _ => .val (.tup []) h | none => .fail)
  | _ => .fail
def eDefer (c : Call) : X := fun cx env h => match c.callee with | .value f => xDefer cx h (opnd env f) | _ => .fail
def execO (o : Op) : X :=
  @Op.rec (fun _ => X) eMove eMove ePick eAlloc eBox eBuild eBuildSlice eUpdate eLoad eStore (fun _ => eFail) (fun _ => eFail) eNil eBin eUn eConvert (fun _ _ => eFail)
    (fun _ _ => eFail) eFunc eMap (fun _ _ => eFail) eMakeSlice eSlice eFieldAddr (fun _ _ _ => eFail) eIndexAddr eIndex eLookup eUpdate (fun _ _ _ => eFail) (fun _ _ _ _ => eFail) (fun _ _ => eFail) (fun _ _ => eFail) (fun _ => eFail)
    (fun _ _ _ _ => eFail) eExtract eCall (fun _ => eFail) eDefer (fun _ => eFail) (fun _ _ => eFail) (fun _ _ _ => eFail) (fun _ _ => eFail) o

def idxByte : List UInt8 → Int → Nat → Int
  | [], _, _ => -1
  | b :: s, c, i => ifB (iEq (.ofNat b.toNat) c) (.ofNat i) (idxByte s c (i + 1))
def extA (e : Ext) (l : List AV) : Option AV :=
  match e, l with
  | .same, [x] => some x
  | .indexByte, [.oth (.str s), .int .u8 (.ofNat c)] => ifB (Nat.blt c 256) (mkInt .i64 (idxByte s (.ofNat c) 0)) none
  | _, _ => none

inductive R where
  | fail (s : String)
  | norm (env : Env) (h : AH)
  | ret (env : Env) (h : AH)
  | exit (id : Nat) (env : Env) (h : AH)
/-! ### a region whose order is open: loads come first, as far as they may -/
structure DOp where
  i : Nat
  o : Oper
  m : Nat     -- what must stand ahead of it, as bits
  e : Bool    -- it may come early
def bindsE (e : Edge) : Bool := match e.ground with | .textOnly _ => false | .gcOnly _ => false | _ => true
def bitN (n : Option Nat) : Nat := match n with | some x => x | none => 0
def predM (acc : List Nat) (l : List Edge) : Nat := @List.rec Edge (fun _ => Nat) 0 (fun e _ ih => ifB (bindsE e) (Nat.lor ih (Nat.lor (Nat.pow 2 e.on) (bitN (nth acc e.on)))) ih) l
def marks (l : List Oper) : Nat → List Nat → List DOp := @List.rec Oper (fun _ => Nat → List Nat → List DOp) (fun _ _ => []) (fun o _ ih i acc => ⟨i, o, predM acc o.after.toList, false⟩ :: ih (Nat.succ i) (acc ++ [predM acc o.after.toList])) l
/-- it only reads -/
def isRead (o : Op) : Bool :=
  match o with
  | .move _ | .assign _ | .pick .. | .load .. | .nilCheck _ | .binOp .. | .unOp .. | .fieldAddr .. | .indexAddr .. | .index .. | .extract .. | .slice .. | .makeFunc .. | .build .. | .convert .. => true
  | .call c => (match c.callee with | .builtin b => (match b with | .len | .cap | .max | .unsafeSliceData => true | _ => false) | _ => false)
  | _ => false
/-- it only makes a new object -/
def isBirth (o : Op) : Bool :=
  match o with
  | .alloc _ | .box .. | .buildSlice .. | .makeMap .. | .makeSlice .. => true
  | _ => false
def isEarly (o : Op) : Bool := ifB (isRead o) true (isBirth o)
def isT (t : Nat) (x : Operand) : Bool := match x with | .tmp u => Nat.beq u t | _ => false
def gTmp (ops : Array Oper) (g : Option (Nat × Bool)) : Option Nat := match g with | some (j, _) => (ops[j]?).bind (·.dst) | none => none
def usesT (ops : Array Oper) (d : DOp) (t : Nat) : Bool := d.o.op.operands.toList.any (isT t) || (match gTmp ops d.o.guard with | some u => Nat.beq u t | none => false)
/-- nobody who need not stand behind it looks at its slot -/
def alone (ops : Array Oper) (l : List DOp) (d : DOp) : Bool := match d.o.dst with | none => true | some t => l.all fun d' => Nat.testBit d'.m d.i || !usesT ops d' t
def flag (ops : Array Oper) (l : List DOp) (d : DOp) : DOp := ⟨d.i, d.o, d.m, isEarly d.o.op && alone ops l d⟩
def allD (ops : Array Oper) : List DOp := (marks ops.toList 0 []).map (flag ops (marks ops.toList 0 []))
def ready (d : DOp) (done : Nat) : Bool := Nat.beq (Nat.land d.m done) d.m
def takeD (rd : Bool) (done : Nat) : List DOp → Option (DOp × List DOp)
  | [] => none
  | d :: l => ifB (ready d done && (d.e || !rd)) (some (d, l)) (match takeD rd done l with | some r => some (r.1, d :: r.2) | none => none)
def takeE (done : Nat) (l : List DOp) : Option (DOp × List DOp) := match takeD true done l with | some r => some r | none => takeD false done l
def eager : Nat → Nat → List DOp → List DOp
  | 0, _, _ => []
  | n + 1, done, l => match takeE done l with
    | some r => r.1 :: eager n (Nat.lor done (Nat.pow 2 r.1.i)) r.2
    | none => []
def canon (ops : Array Oper) : List DOp := eager ops.toList.length 0 (allD ops)

/-- what was read, or made, and is not surely ahead of an operation: it must not write what was read, nor see what was made -/
structure Lg where
  i : Nat
  o : Nat
  hide : Bool
def lock1 (hide : Bool) (x : AObj) : Option AObj :=
  ifB hide (some .dead) (match x with | .cells true t len z c => some (.cells false t len z c) | .map _ => some .dead | _ => none)
def lockL (m : Nat) : List Lg → AH → List (Nat × AObj) → AH × List (Nat × AObj)
  | [], h, sv => (h, sv)
  | e :: l, h, sv => ifB (Nat.testBit m e.i) (lockL m l h sv) (match lock1 e.hide (h.get e.o) with
    | some y => lockL m l (h.put e.o y) ((e.o, h.get e.o) :: sv)
    | none => lockL m l h sv)
def unlockL : List (Nat × AObj) → AH → AH
  | [], h => h
  | p :: l, h => unlockL l (h.put p.1 p.2)
def objOf (a : AV) : Option Nat := match a with
  | .ptr o _ => some o
  | .slice o _ _ _ => some o
  | .oth (.map o) => some o
  | _ => none
def logA (a : AV) (i : Nat) (log : List Lg) : List Lg := match objOf a with | some o => ⟨i, o, false⟩ :: log | none => log
def logD (env : Env) (h : AH) (i : Nat) (o : Op) (log : List Lg) : List Lg :=
  match o with
  | .load _ a => logA (opnd env a) i log
  | .slice _ x _ _ _ => logA (opnd env x) i log
  | .convert _ _ x => logA (opnd env x) i log
  | .call c => (match c.args.toList with | x :: _ => logA (opnd env x) i log | [] => log)
  | .alloc _ | .box .. | .buildSlice .. | .makeMap .. | .makeSlice .. => ⟨i, h.next, true⟩ :: log
  | _ => log

inductive Cmd where
  | code (c : Code)
  | ops (all : Array Oper) (l : List Oper)
  | dops (all : Array Oper) (l : List DOp) (log : List Lg)

def mkEnv (l : List AV) : Nat → Env → Env := List.rec (fun _ e => e) (fun a _ ih i e => ih (i + 1) (e.set i a)) l

def resV (cx : Cx) (env : Env) (h : AH) (r : ResultVar) : Option AV :=
  match r with
  | .tmp t => some (opnd env (.tmp t))
  | .cell a t => (match cx.ty.get t with
    | some d => loadA d h (opnd env (.tmp a))
    | none => none)
def resL (cx : Cx) (env : Env) (h : AH) (rs : List ResultVar) : Option (List AV) :=
  List.rec (some []) (fun r _ ih => match resV cx env h r with | none => none | some a => (match ih with | none => none | some l => some (a :: l))) rs
def resA (cx : Cx) (env : Env) (h : AH) (rs : List ResultVar) : Option AV :=
  match resL cx env h rs with
  | none => none
  | some l => (match l with | [x] => some x | l => some (.tup l))

def put (env : Env) (d : Option Nat) (a : AV) : Env := @Option.rec Nat (fun _ => Env) env (fun d => env.set d a) d

def wantedV (want : Bool) (v : Option AV) : Bool := @Option.rec AV (fun _ => Bool) false (fun a => a.onBool false (fun b => @Bool.rec (fun _ => Bool) (not want) want b)) v
def wantedD (env : Env) (want : Bool) (d : Option Nat) : Bool := @Option.rec Nat (fun _ => Bool) false (fun d => wantedV want (env.get d)) d
def dstAt (o : Option Oper) : Option Nat := @Option.rec Oper (fun _ => Option Nat) none (fun o => o.dst) o
def wantedG (all : Array Oper) (env : Env) (j : Nat) (want : Bool) : Bool := wantedD env want (dstAt (nth all.toList j))
def wantedA (all : Array Oper) (env : Env) (g : Option (Nat × Bool)) : Bool :=
  @Option.rec (Nat × Bool) (fun _ => Bool) true (fun p => wantedG all env p.1 p.2) g

abbrev Ev := Cmd → Env → AH → R
def thenC (ih : Ev) (c : Cmd) (r : R) : R := @R.rec (fun _ => R) .fail (ih c) .ret .exit r
def unB (id id' : Nat) (env : Env) (h : AH) : R := ifB (Nat.beq id id') (.norm env h) (.exit id' env h)
def unBlock (id : Nat) (r : R) : R := @R.rec (fun _ => R) .fail .norm .ret (unB id) r
def stepCond (ih : Ev) (a : AV) (t e : Code) (env : Env) (h : AH) : R :=
  a.onBool (.fail "cond") (fun b => @Bool.rec (fun _ => R) (ih (.code e) env h) (ih (.code t) env h) b)
abbrev CX := Ev → Env → AH → R
def cFail : CX := fun _ _ _ => .fail "code"
def cSkip : CX := fun _ env h => .norm env h
def cRegion (_ : Nat) (ops : Array Oper) (draw : Bool) : CX := fun ih env h => ifB draw (ih (.dops ops (canon ops) []) env h) (ih (.ops ops ops.toList) env h)
def cSeq (a b : Code) : CX := fun ih env h => thenC ih (.code b) (ih (.code a) env h)
def cCond (c : Operand) (t e : Code) : CX := fun ih env h => stepCond ih (opnd env c) t e env h
def cBlock (id : Nat) (b : Code) : CX := fun ih env h => unBlock id (ih (.code b) env h)
def cLoop (b : Code) : CX := fun ih env h => thenC ih (.code (.loop b)) (ih (.code b) env h)
def cExit (id : Nat) : CX := fun _ env h => .exit id env h
def cScope (b : Code) : CX := fun ih env h => ih (.code b) env h
def cRet : CX := fun _ env h => .ret env h
def stepC (c : Code) : CX :=
  @Code.rec (fun _ => CX) cSkip cRegion (fun a b _ _ => cSeq a b) (fun c t e _ _ => cCond c t e) (fun id b _ => cBlock id b) (fun b _ => cLoop b) (fun _ _ _ _ _ _ => cFail) cExit (fun b _ => cScope b) (fun _ => cSkip) (fun _ => cFail) cRet (fun _ => cFail) c
def backA (ih : Ev) (all : Array Oper) (rest : List Oper) (dst : Option Nat) (env : Env) (h : AH) (x : Option AV) : R :=
  match x with
  | some a => ih (.ops all rest) (put env dst a) h
  | none => .fail "result"
def afterCall (cx : Cx) (ih : Ev) (all : Array Oper) (rest : List Oper) (dst : Option Nat) (env : Env) (rs : List ResultVar) (r : R) : R :=
  match r with
  | .norm env' h' => backA ih all rest dst env h' (resA cx env' h' rs)
  | .ret env' h' => backA ih all rest dst env h' (resA cx env' h' rs)
  | .fail s => .fail s
  | _ => .fail "exit"
def stepCall (cx : Cx) (ih : Ev) (all : Array Oper) (rest : List Oper) (dst : Option Nat) (f : FuncId) (args : List AV) (env : Env) (h : AH) : R :=
  match cx.fn.get f with
  | some fn => afterCall cx ih all rest dst env fn.res (ih (.code fn.body) (mkEnv args 0 .leaf) h)
  | none => (match cx.ext.get f with
    | some e => backA ih all rest dst env h (extA e args)
    | none => .fail "no function")
def kVal (ih : Ev) (all : Array Oper) (rest : List Oper) (dst : Option Nat) (env : Env) (a : AV) (h : AH) : R := ih (.ops all rest) (put env dst a) h
def stepOut (cx : Cx) (ih : Ev) (all : Array Oper) (rest : List Oper) (dst : Option Nat) (pos : String) (env : Env) (h : AH) (x : Out) : R :=
  @Out.rec (fun _ => R) (.fail pos) (kVal ih all rest dst env) (fun f args => stepCall cx ih all rest dst f args env h) x
def stepOp (cx : Cx) (ih : Ev) (all : Array Oper) (rest : List Oper) (o : Oper) (env : Env) (h : AH) : R :=
  ifB (wantedA all env o.guard) (stepOut cx ih all rest o.dst o.pos env h (execO o.op cx env h)) (ih (.ops all rest) (put env o.dst (.tup [])) h)
def stepO (cx : Cx) (all : Array Oper) (l : List Oper) : CX :=
  @List.rec Oper (fun _ => CX) cSkip (fun o rest _ ih env h => stepOp cx ih all rest o env h) l
/-! the open order -/
def goD (ih : Ev) (all : Array Oper) (rest : List DOp) (log : List Lg) (dst : Option Nat) (sv : List (Nat × AObj)) (env : Env) (a : AV) (h : AH) : R :=
  ih (.dops all rest log) (put env dst a) (unlockL sv h)
def backD (ih : Ev) (all : Array Oper) (rest : List DOp) (log : List Lg) (dst : Option Nat) (sv : List (Nat × AObj)) (env : Env) (h : AH) (x : Option AV) : R :=
  match x with
  | some a => goD ih all rest log dst sv env a h
  | none => .fail "result"
def afterD (cx : Cx) (ih : Ev) (all : Array Oper) (rest : List DOp) (log : List Lg) (dst : Option Nat) (sv : List (Nat × AObj)) (env : Env) (rs : List ResultVar) (r : R) : R :=
  match r with
  | .norm env' h' => backD ih all rest log dst sv env h' (resA cx env' h' rs)
  | .ret env' h' => backD ih all rest log dst sv env h' (resA cx env' h' rs)
  | .fail s => .fail s
  | _ => .fail "exit"
def callD (cx : Cx) (ih : Ev) (all : Array Oper) (rest : List DOp) (log : List Lg) (dst : Option Nat) (sv : List (Nat × AObj)) (f : FuncId) (args : List AV) (env : Env) (h : AH) : R :=
  match cx.fn.get f with
  | some fn => afterD cx ih all rest log dst sv env fn.res (ih (.code fn.body) (mkEnv args 0 .leaf) h)
  | none => (match cx.ext.get f with
    | some e => backD ih all rest log dst sv env h (extA e args)
    | none => .fail "no function")
def outD (cx : Cx) (ih : Ev) (all : Array Oper) (rest : List DOp) (log : List Lg) (dst : Option Nat) (sv : List (Nat × AObj)) (pos : String) (env : Env) (x : Out) (h : AH) : R :=
  match x with
  | .val a h => goD ih all rest log dst sv env a h
  | .call f args => callD cx ih all rest log dst sv f args env h
  | .fail => .fail pos
def effD (cx : Cx) (ih : Ev) (all : Array Oper) (rest : List DOp) (log : List Lg) (o : Oper) (env : Env) (l : AH × List (Nat × AObj)) : R :=
  outD cx ih all rest log o.dst l.2 o.pos env (execO o.op cx env l.1) l.1
def stepDO (cx : Cx) (ih : Ev) (all : Array Oper) (rest : List DOp) (log : List Lg) (d : DOp) (env : Env) (h : AH) : R :=
  ifB (wantedA all env d.o.guard)
    (ifB d.e (outD cx ih all rest (logD env h d.i d.o.op log) d.o.dst [] d.o.pos env (execO d.o.op cx env h) h) (effD cx ih all rest log d.o env (lockL d.m log h [])))
    (ih (.dops all rest log) (put env d.o.dst (.tup [])) h)
def stepD (cx : Cx) (all : Array Oper) (l : List DOp) (log : List Lg) : CX :=
  match l with
  | [] => cSkip
  | d :: rest => fun ih env h => stepDO cx ih all rest log d env h
def stepEv (cx : Cx) (ih : Ev) (c : Cmd) : Env → AH → R :=
  @Cmd.rec (fun _ => CX) stepC (stepO cx) (stepD cx) c ih
def ev (cx : Cx) (n : Nat) : Ev := @Nat.rec (fun _ => Ev) (fun _ _ _ => R.fail "fuel") (fun _ ih => stepEv cx ih) n

def finA (cx : Cx) (rs : List ResultVar) (r : R) : Option (AV × AH) :=
  match r with
  | .norm env' h' => (match resA cx env' h' rs with | some a => some (a, h') | none => none)
  | .ret env' h' => (match resA cx env' h' rs with | some a => some (a, h') | none => none)
  | _ => none
def callA (cx : Cx) (n : Nat) (f : FuncId) (args : List AV) (h : AH) : Option (AV × AH) :=
  match cx.fn.get f with
  | none => none
  | some fn => finA cx fn.res (ev cx n (.code fn.body) (mkEnv args 0 .leaf) h)
end
end Go.Sh
