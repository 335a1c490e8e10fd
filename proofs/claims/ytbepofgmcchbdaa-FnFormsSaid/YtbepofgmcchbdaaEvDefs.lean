/- The evaluator of the framework 'Ev': a pure, memory-free reading of the model's code, in the style of continuations. Definitions alone. -/
import GoSem.Step
import GoSem.ClaimKeys
import Derived.KernelRfl
namespace Go.Ev

/-- What a row of a typed block holds. -/
inductive Ty where
  | int (k : IntKind) | bool | str | pt | tr | qd | hx
  deriving DecidableEq, Inhabited

@[reducible] def Ty.den : Ty → Type
  | .int _ => Int
  | .bool => Bool
  | .str => ByteArray
  | .pt => Int × Int
  | .tr => Int × Int × Int
  | .qd => Int × Int × Int × Int
  | .hx => Int × Int × Int × Int × Int × Int

/-- How many cells a row has. -/
def Ty.w : Ty → Nat
  | .pt => 2
  | .tr => 3
  | .qd => 4
  | .hx => 6
  | _ => 1

/-- Values, with blocks by their numbers. 'undef': nothing is known. 'emp': an empty slice of capacity 0. -/
inductive AV where
  | undef
  | int (k : IntKind) (n : Int)
  | bool (b : Bool)
  | str (s : ByteArray)
  | nilptr
  | ptr (id row col : Nat)
  | nilsl
  | emp
  | sl (id : Nat)
  | sub (id lo n : Nat)
  | agg (l : List AV)
  | tup (l : List AV)
  | fn (f : FuncId) (caps : List AV)
  | map (id : Nat)
  deriving Inhabited

def Ty.enc : (t : Ty) → t.den → List AV
  | .int k, n => [.int k n]
  | .bool, b => [.bool b]
  | .str, s => [.str s]
  | .pt, p => [.int .i64 p.1, .int .i64 p.2]
  | .tr, p => [.int .i64 p.1, .int .i64 p.2.1, .int .i64 p.2.2]
  | .qd, p => [.int .i64 p.1, .int .i64 p.2.1, .int .i64 p.2.2.1, .int .i64 p.2.2.2]
  | .hx, p => [.int .i64 p.1, .int .i64 p.2.1, .int .i64 p.2.2.1, .int .i64 p.2.2.2.1, .int .i64 p.2.2.2.2.1, .int .i64 p.2.2.2.2.2]

def Ty.dec : (t : Ty) → List AV → Option t.den
  | .int k, [.int k' n] => if k = k' then some n else none
  | .bool, [.bool b] => some b
  | .str, [.str s] => some s
  | .pt, [.int .i64 x, .int .i64 y] => some (x, y)
  | .tr, [.int .i64 x, .int .i64 y, .int .i64 z] => some (x, y, z)
  | .qd, [.int .i64 x, .int .i64 y, .int .i64 z, .int .i64 u] => some (x, y, z, u)
  | .hx, [.int .i64 x, .int .i64 y, .int .i64 z, .int .i64 u, .int .i64 v, .int .i64 w] => some (x, y, z, u, v, w)
  | _, _ => none

/-- A block: its mode (0: read alone, 1: lent for writing, 2: the call's own), its element type, its rows. -/
inductive Blk where
  | rows (mode : Nat) (e : TypeId) (t : Ty) (l : List t.den)
  | mix (mode : Nat) (e : TypeId) (l : List AV)
  /-- A map: its keys in the order in which they came, and their values. -/
  | map (e : TypeId) (kt vt : Ty) (ks : List kt.den) (vs : List vt.den)

def Blk.mode : Blk → Nat
  | .rows m _ _ _ => m
  | .mix m _ _ => m
  | .map _ _ _ _ _ => 0
def Blk.e : Blk → TypeId
  | .rows _ e _ _ => e
  | .mix _ e _ => e
  | .map e _ _ _ _ => e
def Blk.w : Blk → Nat
  | .rows _ _ t _ => t.w
  | .mix _ _ _ => 1
  | .map _ _ _ _ _ => 1
def Blk.n : Blk → Nat
  | .rows _ _ _ l => l.length
  | .mix _ _ l => l.length
  | .map _ _ _ _ _ => 0
def Blk.flat : Blk → List AV
  | .rows _ _ t l => l.flatMap t.enc
  | .mix _ _ l => l
  | .map _ _ _ _ _ => []

def Blk.isMap : Blk → Bool
  | .map _ _ _ _ _ => true
  | _ => false

abbrev Heap := List (Nat × Blk)

structure St where
  slots : List AV
  heap : Heap

/-- Data: what passes between functions. -/
inductive D where
  | int (k : IntKind) (n : Int)
  | bool (b : Bool)
  | str (s : ByteArray)
  | agg (l : List D)
  | nilsl
  | sl (e : TypeId) (t : Ty) (l : List t.den)
  | slm (e : TypeId) (l : List D)
  | msl (e : TypeId) (t : Ty) (l : List t.den)
  | nilptr
  | ptr (e : TypeId) (l : List D)
  | mptr (e : TypeId) (l : List D)
  | fn (f : FuncId) (caps : List D)
  | same (i : Nat)
  | keep
  deriving Inhabited

structure Res where
  rs : List D
  outs : List D

inductive Out where
  | normal (st : St)
  | exit (id : Nat) (st : St)
  | ret (r : Res)

/-! ### slots and blocks -/
def ofScalar (v : Value) : AV :=
  match v with
  | .int k n => .int k n
  | .bool b => .bool b
  | .string s => .str s
  | .pointer a => match a with
    | none => .nilptr
    | some _ => .undef
  | .slice a l c => match a with
    | none => bif Nat.beq l 0 && Nat.beq c 0 then .nilsl else .undef
    | some _ => .undef
  | .func fn first caps => match fn with
    | .func f => match first.toList, caps.toList with
      | [], [] => .fn f []
      | _, _ => .undef
    | _ => .undef
  | _ => .undef

def ofConst (v : Value) : AV :=
  match v with
  | .agg cs => .agg (cs.toList.map ofScalar)
  | v => ofScalar v

def St.get (st : St) : Operand → AV
  | .tmp t => st.slots.getD t .undef
  | .const v => ofConst v
  | .func f => .fn f []
  | .global _ => .undef

def St.put (st : St) (dst : Option Tmp) (v : AV) : St :=
  match dst with
  | some d => { st with slots := st.slots.set d v }
  | none => st

def look : Heap → Nat → Option Blk
  | [], _ => none
  | (j, b) :: r, id => bif Nat.beq j id then some b else look r id

def upd : Heap → Nat → Blk → Heap
  | [], id, b => [(id, b)]
  | (j, c) :: r, id, b => bif Nat.beq j id then (id, b) :: r else (j, c) :: upd r id b

def del : Heap → Nat → Heap
  | [], _ => []
  | (j, c) :: r, id => bif Nat.beq j id then del r id else (j, c) :: del r id

mutual
def AV.names (id : Nat) : AV → Bool
  | .ptr j _ _ => Nat.beq j id
  | .sl j => Nat.beq j id
  | .sub j _ _ => Nat.beq j id
  | .agg l => AV.namesAll id l
  | .tup l => AV.namesAll id l
  | .fn _ l => AV.namesAll id l
  | .map j => Nat.beq j id
  | _ => false
def AV.namesAll (id : Nat) : List AV → Bool
  | [] => false
  | x :: r => x.names id || AV.namesAll id r
end

/-- Whoever names a block that goes is made unknown. -/
def killAV (id : Nat) (v : AV) : AV := bif v.names id then .undef else v
def killBlk (id : Nat) : Blk → Blk
  | .mix m e l => .mix m e (l.map (killAV id))
  | b => b
def killHeap (id : Nat) : Heap → Heap
  | [] => []
  | (j, b) :: r => (j, killBlk id b) :: killHeap id r
def St.kill (st : St) (id : Nat) : St :=
  { slots := st.slots.map (killAV id), heap := killHeap id (del st.heap id) }

/-- A new block under a site's number; an elder one of that number goes. -/
def St.fresh (st : St) (id : Nat) (b : Blk) : St :=
  { slots := st.slots.map (killAV id), heap := killHeap id (del st.heap id) ++ [(id, b)] }

/-! ### types -/
def isCell : AV → Bool
  | .undef => false
  | .agg _ => false
  | .tup _ => false
  | _ => true

def allCells : List AV → Bool
  | [] => true
  | x :: r => isCell x && allCells r

def allInts (k : IntKind) : List AV → Option (List Int)
  | [] => some []
  | .int k' n :: r => if k = k' then (allInts k r).map (n :: ·) else none
  | _ :: _ => none

/-- The block of a boxed variable. -/
def boxBlk (m : Nat) (e : TypeId) (l : List AV) : Blk :=
  match l with
  | .int k n :: r => match allInts k r with
    | some ns => .rows m e (.int k) (n :: ns)
    | none => .mix m e l
  | _ => .mix m e l

def cellsOf : AV → List AV
  | .agg l => l
  | v => [v]

/-- Is a type's value an aggregate? -/
def aggT (P : Program) (t : TypeId) : Option Bool :=
  match P.underlying t with
  | some (.struct _) => some true
  | some (.array _ _) => some true
  | some _ => some false
  | none => none

def zeroOf (P : Program) (t : TypeId) : Option AV := (P.info? t).bind fun i => i.zero.map ofConst

def sizeT (P : Program) (t : TypeId) : Option Nat := (P.info? t).map (·.size)

/-- The row type of an element type: by its zero value. -/
def tyOf (P : Program) (t : TypeId) : Option Ty :=
  match zeroOf P t with
  | some (.int k _) => some (.int k)
  | some (.bool _) => some .bool
  | some (.str _) => some .str
  | some (.agg [.int .i64 _, .int .i64 _]) => some .pt
  | some (.agg [.int .i64 _, .int .i64 _, .int .i64 _]) => some .tr
  | some (.agg [.int .i64 _, .int .i64 _, .int .i64 _, .int .i64 _]) => some .qd
  | some (.agg [.int .i64 _, .int .i64 _, .int .i64 _, .int .i64 _, .int .i64 _, .int .i64 _]) => some .hx
  | _ => none

/-- Rows out of cells, if they are rows. -/
def decRows (t : Ty) : Nat → List AV → Option (List t.den)
  | 0, [] => some []
  | 0, _ :: _ => none
  | n + 1, l => (t.dec (l.take t.w)).bind fun x => (decRows t n (l.drop t.w)).map (x :: ·)

variable {α : Type}

/-! ### reading and writing blocks -/
def readRows {β : Type} (l : List β) (i : Nat) : (n : Nat) → (List β → Option α) → Option α
  | 0, k => k []
  | n + 1, k => (l[i]?).bind fun x => readRows l (i + 1) n fun r => k (x :: r)

def Blk.read (b : Blk) (row col n : Nat) (k : List AV → Option α) : Option α :=
  match b with
  | .map _ _ _ _ _ => none
  | .mix _ _ l => bif Nat.beq col 0 && Nat.ble (row + n) l.length then k ((l.drop row).take n) else none
  | .rows _ _ t l =>
    bif Nat.beq t.w 1 then bif Nat.beq col 0 then readRows l row n fun xs => k (xs.flatMap t.enc) else none
    else bif Nat.ble (col + n) t.w then (l[row]?).bind fun x => k (((t.enc x).drop col).take n)
    else none

def setAll {β : Type} (l : List β) (i : Nat) : List β → List β
  | [] => l
  | v :: r => setAll (l.set i v) (i + 1) r

def writeRows (t : Ty) (l : List t.den) (i : Nat) : List AV → (List t.den → Option α) → Option α
  | [], k => k l
  | v :: r, k => (l[i]?).bind fun _ => (t.dec [v]).bind fun x => writeRows t (l.set i x) (i + 1) r k

/-- A row with cells laid at a column: whichever it is. -/
def decAt (t : Ty) (x : t.den) (vs : List AV) (i : Nat) : Option t.den := t.dec (setAll (t.enc x) i vs)

def allDec (t : Ty) (x : t.den) (vs : List AV) : Nat → Bool
  | 0 => true
  | n + 1 => (decAt t x vs n).isSome && allDec t x vs n

def selD (t : Ty) (x : t.den) (vs : List AV) (c : Nat) : Nat → t.den
  | 0 => x
  | n + 1 => bif Nat.beq c n then (decAt t x vs n).getD x else selD t x vs c n

def decSel (t : Ty) (x : t.den) (col : Nat) (vs : List AV) : Option t.den := bif allDec t x vs (t.w + 1 - vs.length) then some (selD t x vs col (t.w + 1 - vs.length)) else none

def Blk.write (b : Blk) (row col : Nat) (vs : List AV) (k : Blk → Option α) : Option α :=
  bif Nat.beq b.mode 0 || !allCells vs then none else
  match b with
  | .map _ _ _ _ _ => none
  | .mix m e l => bif Nat.beq col 0 && Nat.ble (row + vs.length) l.length then k (.mix m e (setAll l row vs)) else none
  | .rows m e t l =>
    bif Nat.beq t.w 1 then bif Nat.beq col 0 then writeRows t l row vs fun l' => k (.rows m e t l') else none
    else bif Nat.ble (col + vs.length) t.w then (l[row]?).bind fun x => (decSel t x col vs).bind fun y => k (.rows m e t (l.set row y))
    else none

/-! ### operations -/
def eqCells : List AV → List AV → Option Bool
  | [], [] => some true
  | [.int k x], [.int k' y] => if k = k' then some (decide (x = y)) else none
  | .int k x :: r, .int k' y :: s => if k = k' then (eqCells r s).map fun b => (decide (x = y) && b) else none
  | _, _ => none

/-- How long a slice or a text may become. -/
def big : Nat := 1099511627776

def evBin (P : Program) (eqs : TypeId → Nat → Bool) (t : TypeId) (op : BinOp) (x y : AV) (k : AV → Option α) : Option α :=
  match op, x, y with
  | .shl, .int ka a, .int _ b => bif decide (b < 0) then none else k (.int ka (ka.wrap (a * 2 ^ (min b.toNat ka.bits))))
  | .shr, .int ka a, .int _ b => bif decide (b < 0) then none else k (.int ka (a.fdiv (2 ^ (min b.toNat ka.bits))))
  | op, .int ka a, .int kb b =>
    if ka ≠ kb then none else
    match op with
    | .add => k (.int ka (ka.wrap (a + b)))
    | .sub => k (.int ka (ka.wrap (a - b)))
    | .mul => k (.int ka (ka.wrap (a * b)))
    | .quo => bif decide (b = 0) then none else k (.int ka (ka.wrap (a.tdiv b)))
    | .rem => bif decide (b = 0) then none else k (.int ka (a.tmod b))
    | .and => k (.int ka (ka.wrap (BitVec.ofInt ka.bits a &&& BitVec.ofInt ka.bits b).toNat))
    | .eql => k (.bool (decide (a = b)))
    | .neq => k (.bool (!decide (a = b)))
    | .lss => k (.bool (decide (a < b)))
    | .leq => k (.bool (decide (a ≤ b)))
    | .gtr => k (.bool (decide (b < a)))
    | .geq => k (.bool (decide (b ≤ a)))
    | _ => none
  | .eql, .bool a, .bool b => match P.underlying t with
    | some .bool => k (.bool (a == b))
    | _ => none
  | .neq, .bool a, .bool b => match P.underlying t with
    | some .bool => k (.bool (!(a == b)))
    | _ => none
  | .eql, .str a, .str b => k (.bool (decide (a = b)))
  | .neq, .str a, .str b => k (.bool (!decide (a = b)))
  | .add, .str a, .str b => bif decide (a.size + b.size ≤ big) then k (.str (a ++ b)) else none
  | .eql, .agg a, .agg b => bif eqs t a.length then (eqCells a b).bind fun r => k (.bool r) else none
  | .neq, .agg a, .agg b => bif eqs t a.length then (eqCells a b).bind fun r => k (.bool (!r)) else none
  | _, _, _ => none

def evUn (op : UnOp) (x : AV) (k : AV → Option α) : Option α :=
  match op, x with
  | .neg, .int ka a => k (.int ka (ka.wrap (0 - a)))
  | .not, .bool b => k (.bool (!b))
  | _, _ => none

/-- A place, moved by i elements of s cells. -/
def moved (r i s : Nat) : Nat := bif Nat.beq r 0 then (bif Nat.beq s 1 then i else i * s) else r + i * s

def siteOf (dst : Option Tmp) : Nat := (dst.getD 0) * 64

def getT (l : List AV) (i : Nat) (k : AV → Option α) : Option α := (l[i]?).bind k

/-- Data of a value, for a callee that reads alone. -/
def scalarD : AV → Option D
  | .int k n => some (.int k n)
  | .bool b => some (.bool b)
  | .str s => some (.str s)
  | .nilsl => some .nilsl
  | .nilptr => some .nilptr
  | _ => none

def scalarsD : List AV → Option (List D)
  | [] => some []
  | x :: r => (scalarD x).bind fun d => (scalarsD r).map (d :: ·)

def allD (f : AV → Option D) : List AV → Option (List D)
  | [] => some []
  | x :: r => (f x).bind fun d => (allD f r).map (d :: ·)

def memN (i : Nat) : List Nat → Bool
  | [] => false
  | x :: r => Nat.beq x i || memN i r

/-- Data of a value to read alone; of depth d at most; 'ban': blocks that are lent at the same call. -/
def toD (ban : List Nat) (h : Heap) : Nat → AV → Option D
  | 0, v => scalarD v
  | d + 1, v => match v with
    | .agg l => (scalarsD l).map .agg
    | .fn f l => (allD (toD ban h d) l).map (.fn f)
    | .sl id => bif memN id ban then none else (look h id).bind fun b => match b with
      | .rows _ e t l => some (.sl e t l)
      | .mix _ e l => (allD (toD ban h d) l).map (.slm e)
      | .map _ _ _ _ _ => none
    | .sub id lo n => bif memN id ban then none else (look h id).bind fun b => match b with
      | .rows _ e t l => some (.sl e t ((l.drop lo).take n))
      | _ => none
    | .ptr id 0 0 => bif memN id ban then none else (look h id).bind fun b => match b with
      | .rows _ e t l => (scalarsD (l.flatMap t.enc)).map (.ptr e)
      | .mix _ e l => (allD (toD ban h d) l).map (.ptr e)
      | .map _ _ _ _ _ => none
    | v => scalarD v

/-- The blocks that a call lends. -/
def lentIds : List Nat → List AV → Option (List Nat)
  | _, [] => some []
  | [], _ :: _ => some []
  | m :: ms, v :: vs => match m with
    | 1 => match v with
      | .sl id => (lentIds ms vs).map (id :: ·)
      | .ptr id 0 0 => (lentIds ms vs).map (id :: ·)
      | .nilsl => lentIds ms vs
      | _ => none
    | _ => lentIds ms vs

def nodupN : List Nat → Bool
  | [] => true
  | x :: r => !memN x r && nodupN r

/-- A value lent for writing: its block must be the call's own, or lent to it. -/
def lendD (ban : List Nat) (h : Heap) : AV → Option D
  | .sl id => (look h id).bind fun b => match b with
    | .rows m e t l => bif Nat.beq m 0 then none else some (.msl e t l)
    | _ => none
  | .ptr id 0 0 => (look h id).bind fun b => match b with
    | .rows m e t l => bif Nat.beq m 0 then none else match l with
      | [] => none
      | _ :: _ => (scalarsD (l.flatMap t.enc)).map (.mptr e)
    | .map _ _ _ _ _ => none
    | .mix m e l => bif Nat.beq m 0 then none else match l with
      | [] => none
      | _ :: _ => (allD (toD ban h 3) l).map (.mptr e)
  | .nilsl => some .nilsl
  | _ => none

/-- The arguments of a call. -/
def argsD (ban : List Nat) (h : Heap) : List Nat → List AV → Option (List D)
  | _, [] => some []
  | [], v :: vs => (toD ban h 4 v).bind fun d => (argsD ban h [] vs).map (d :: ·)
  | m :: ms, v :: vs => match m with
    | 1 => (lendD ban h v).bind fun d => (argsD ban h ms vs).map (d :: ·)
    | _ => (toD ban h 4 v).bind fun d => (argsD ban h ms vs).map (d :: ·)

def scalarAV : D → Option AV
  | .int k n => some (.int k n)
  | .bool b => some (.bool b)
  | .str s => some (.str s)
  | .nilsl => some .nilsl
  | .nilptr => some .nilptr
  | _ => none

/-- What comes back from a call: blocks of its own get the numbers from 'n' on. -/
structure Imp where
  st : St
  args : List AV
  acc : List AV
  n : Nat

def Imp.fresh (i : Imp) (b : Blk) : Imp := { st := i.st.fresh i.n b, args := i.args.map (killAV i.n), acc := i.acc.map (killAV i.n), n := i.n + 1 }

/-- A cell of a result: a scalar, or a slice of its own. -/
def impCell (i : Imp) (d : D) (k : Imp → AV → Option α) : Option α :=
  match d with
  | .sl e t l => k (i.fresh (.rows 2 e t l)) (.sl i.n)
  | .same j => (i.args[j]?).bind fun x => match x with
    | .sl id => bif Nat.blt id i.n then k i (.sl id) else none
    | _ => none
  | d => (scalarAV d).bind fun v => k i v

def impCells (i : Imp) : List D → (Imp → List AV → Option α) → Option α
  | [], k => k i []
  | d :: r, k => impCell i d fun i v => impCells i r fun i vs => k i (v :: vs)

def imp (i : Imp) (d : D) (k : Imp → AV → Option α) : Option α :=
  match d with
  | .agg l => impCells i l fun i vs => k i (.agg vs)
  | .ptr e l => impCells i l fun i vs => k (i.fresh (boxBlk 2 e vs)) (.ptr i.n 0 0)
  | .same j => (i.args[j]?).bind fun v => k i v
  | d => impCell i d k

def imps (i : Imp) : List D → (Imp → Option α) → Option α
  | [], k => k i
  | d :: r, k => imp i d fun i v => imps { i with acc := i.acc ++ [v] } r k

/-- New cells of a block that was lent. -/
def keepCells : List AV → List D → Option (List AV)
  | [], [] => some []
  | v :: vs, d :: ds => match d with
    | .keep => (keepCells vs ds).map (v :: ·)
    | d => (scalarAV d).bind fun x => (keepCells vs ds).map (x :: ·)
  | _, _ => none

/-- A block that was lent, as it comes back. -/
def upd1 (b : Blk) (d : D) : Option Blk :=
  match b, d with
  | .rows m e t _, .sl _ t' l' => if h' : t' = t then some (.rows m e t (h' ▸ l')) else none
  | .rows m e t l, .ptr _ ds => (keepCells (l.flatMap t.enc) ds).bind fun vs => bif Nat.beq t.w 1 then (decRows t l.length vs).map fun l' => .rows m e t l' else none
  | .mix m e l, .ptr _ ds => (keepCells l ds).map fun vs => .mix m e vs
  | _, _ => none

def back1 (h : Heap) (id : Nat) (d : D) : Option Heap :=
  (look h id).bind fun b => (upd1 b d).map fun b' => upd h id b'

def back : Heap → List Nat → List D → Option Heap
  | h, [], [] => some h
  | h, id :: ids, d :: ds => (back1 h id d).bind fun h => back h ids ds
  | _, _, _ => none

/-- .. and a slice of one's own that is given away does not. -/
def backG : Heap → List Nat → List D → Option Heap
  | h, [], [] => some h
  | h, id :: ids, d :: ds => match d with
    | .nilsl => (look h id).bind fun b => bif Nat.beq b.mode 2 then backG (del h id) ids ds else none
    | d => (back1 h id d).bind fun h => backG h ids ds
  | _, _, _ => none

/-! ### loops: what stands at a loop's head -/
inductive Sk where
  | any
  | lit (k : IntKind) (n : Int)
  | int (k : IntKind)
  | bool
  | str
  | nilptr
  | nilsl
  | emp
  | ptr (id r c : Nat)
  | sl (id : Nat)
  | sub (id : Nat)
  | agg (l : List Sk)
  | tup (l : List Sk)
  | fn (f : FuncId) (l : List Sk)
  | map (id : Nat)

inductive P1 where
  | int (n : Int)
  | bool (b : Bool)
  | str (s : ByteArray)
  | nat (n : Nat)
  | rows (t : Ty) (l : List t.den)

mutual
def takeV : Sk → AV → Option (List P1)
  | .any, _ => some []
  | .lit k n, .int k' m => if k = k' then (if m = n then some [] else none) else none
  | .int k, .int k' n => if k = k' then some [.int n] else none
  | .bool, .bool b => some [.bool b]
  | .str, .str s => some [.str s]
  | .nilptr, .nilptr => some []
  | .nilsl, .nilsl => some []
  | .emp, .emp => some []
  | .ptr i r c, .ptr i' r' c' => bif Nat.beq i i' && (Nat.beq r r' && Nat.beq c c') then some [] else none
  | .sl i, .sl i' => bif Nat.beq i i' then some [] else none
  | .sub i, .sub i' lo n => bif Nat.beq i i' then some [.nat lo, .nat n] else none
  | .agg s, .agg l => takeVs s l
  | .tup s, .tup l => takeVs s l
  | .fn f s, .fn f' l => bif Nat.beq f f' then takeVs s l else none
  | .map i, .map i' => bif Nat.beq i i' then some [] else none
  | _, _ => none
def takeVs : List Sk → List AV → Option (List P1)
  | [], [] => some []
  | s :: ss, v :: vs => (takeV s v).bind fun p => (takeVs ss vs).map fun q => p ++ q
  | _, _ => none
end

mutual
def buildV : Sk → List P1 → Option (AV × List P1)
  | .any, p => some (.undef, p)
  | .lit k n, p => some (.int k n, p)
  | .int k, .int n :: p => some (.int k n, p)
  | .bool, .bool b :: p => some (.bool b, p)
  | .str, .str s :: p => some (.str s, p)
  | .nilptr, p => some (.nilptr, p)
  | .nilsl, p => some (.nilsl, p)
  | .emp, p => some (.emp, p)
  | .ptr i r c, p => some (.ptr i r c, p)
  | .sl i, p => some (.sl i, p)
  | .sub i, .nat lo :: .nat n :: p => some (.sub i lo n, p)
  | .agg s, p => (buildVs s p).map fun (l, p) => (.agg l, p)
  | .tup s, p => (buildVs s p).map fun (l, p) => (.tup l, p)
  | .fn f s, p => (buildVs s p).map fun (l, p) => (.fn f l, p)
  | .map i, p => some (.map i, p)
  | _, _ => none
def buildVs : List Sk → List P1 → Option (List AV × List P1)
  | [], p => some ([], p)
  | s :: ss, p => (buildV s p).bind fun (v, p) => (buildVs ss p).map fun (vs, p) => (v :: vs, p)
end

inductive BSk where
  | rows (m : Nat) (e : TypeId) (t : Ty)
  /-- numbers, as many as are told -/
  | ints (m : Nat) (e : TypeId) (k : IntKind) (n : Nat)
  | mix (m : Nat) (e : TypeId) (l : List Sk)
  | map (e : TypeId) (kt vt : Ty)

def takeInts : Nat → List P1 → Option (List Int × List P1)
  | 0, p => some ([], p)
  | n + 1, .int x :: p => (takeInts n p).map fun (l, p) => (x :: l, p)
  | _, _ => none

def takeB : BSk → Blk → Option (List P1)
  | .ints m e k n, .rows m' e' (.int k') l => bif Nat.beq m m' && (Nat.beq e e' && Nat.beq l.length n) then (if k = k' then some (List.map P1.int l) else none) else none
  | .rows m e t, .rows m' e' t' l => bif Nat.beq m m' && Nat.beq e e' then (if h : t' = t then some [.rows t (h ▸ l)] else none) else none
  | .mix m e s, .mix m' e' l => bif Nat.beq m m' && Nat.beq e e' then takeVs s l else none
  | .map e kt vt, .map e' kt' vt' ks vs => bif Nat.beq e e' then (if h : kt' = kt then if h' : vt' = vt then some [.rows kt (h ▸ ks), .rows vt (h' ▸ vs)] else none else none) else none
  | _, _ => none

def buildB : BSk → List P1 → Option (Blk × List P1)
  | .ints m e k n, p => (takeInts n p).map fun (l, p) => (.rows m e (.int k) l, p)
  | .rows m e t, .rows t' l :: p => if h : t' = t then some (.rows m e t (h ▸ l), p) else none
  | .mix m e s, p => (buildVs s p).map fun (l, p) => (.mix m e l, p)
  | .map e kt vt, .rows kt' ks :: .rows vt' vs :: p => if h : kt' = kt then if h' : vt' = vt then some (.map e kt vt (h ▸ ks) (h' ▸ vs), p) else none else none
  | _, _ => none

structure Tpl where
  slots : List Sk
  heap : List (Nat × BSk)
  /-- Slots whose slice has to lie under a number: a nil slice is laid there, another block is renamed. -/
  prep : List (Nat × Nat × TypeId × Ty) := []
  /-- The first round is read by itself. -/
  peel : Bool := false

mutual
def renAV (B A : Nat) : AV → AV
  | .ptr j r c => .ptr (bif Nat.beq j B then A else j) r c
  | .sl j => .sl (bif Nat.beq j B then A else j)
  | .sub j lo n => .sub (bif Nat.beq j B then A else j) lo n
  | .agg l => .agg (renAVs B A l)
  | .tup l => .tup (renAVs B A l)
  | .fn f l => .fn f (renAVs B A l)
  | .map j => .map (bif Nat.beq j B then A else j)
  | v => v
def renAVs (B A : Nat) : List AV → List AV
  | [] => []
  | v :: r => renAV B A v :: renAVs B A r
end

def renBlk (B A : Nat) : Blk → Blk
  | .mix m e l => .mix m e (renAVs B A l)
  | b => b

def renHeap (B A : Nat) : Heap → Heap
  | [] => []
  | (j, b) :: r => (bif Nat.beq j B then A else j, renBlk B A b) :: renHeap B A r

/-- The block B is called A; what was A is forgotten. -/
def St.rename (st : St) (B A : Nat) : St := ⟨renAVs B A (st.slots.map (killAV A)), renHeap B A (killHeap A (del st.heap A))⟩

/-- The first rows of a block become the block. -/
def St.trim (st : St) (j B n : Nat) (e : TypeId) (t : Ty) (l : List t.den) : St := (st.fresh B (.rows 2 e t (l.take n))).put (some j) (.sl B)

def prep1 (low : Nat) (p : Nat × Nat × TypeId × Ty) (st : St) : St :=
  match st.slots.getD p.1 .undef with
  | .nilsl => bif Nat.ble low p.2.1 then (st.fresh p.2.1 (.rows 2 p.2.2.1 p.2.2.2 [])).put (some p.1) (.sl p.2.1) else st
  | .emp => bif Nat.ble low p.2.1 then (st.fresh p.2.1 (.rows 2 p.2.2.1 p.2.2.2 [])).put (some p.1) (.sl p.2.1) else st
  | .sl B => bif Nat.beq B p.2.1 then st else bif Nat.ble low p.2.1 && Nat.ble low B then st.rename B p.2.1 else st
  | .sub B 0 n => bif Nat.ble low p.2.1 && Nat.ble low B then (match look st.heap B with
      | some (.rows m e t l) => bif Nat.beq m 2 then (bif Nat.beq B p.2.1 then st.trim p.1 B n e t l else (st.trim p.1 B n e t l).rename B p.2.1) else st
      | _ => st) else st
  | _ => st

def prepAll (low : Nat) : List (Nat × Nat × TypeId × Ty) → St → St
  | [], st => st
  | p :: r, st => prepAll low r (prep1 low p st)

def takeH (h : Heap) : List (Nat × BSk) → Option (List P1)
  | [] => some []
  | (i, b) :: r => (look h i).bind fun x => (takeB b x).bind fun p => (takeH h r).map fun q => p ++ q

def buildH : List (Nat × BSk) → List P1 → Option (Heap × List P1)
  | [], p => some ([], p)
  | (i, b) :: r, p => (buildB b p).bind fun (x, p) => (buildH r p).map fun (h, p) => ((i, x) :: h, p)

def Tpl.take0 (t : Tpl) (st : St) : Option (List P1) := (takeVs t.slots st.slots).bind fun p => (takeH st.heap t.heap).map fun q => p ++ q

def Tpl.take (low : Nat) (t : Tpl) (st : St) : Option (List P1) := t.take0 (prepAll low t.prep st)

def Tpl.build (t : Tpl) (p : List P1) : Option St :=
  (buildVs t.slots p).bind fun (s, p) => (buildH t.heap p).bind fun (h, p) => match p with
    | [] => some ⟨s, h⟩
    | _ :: _ => none

structure Lp (α : Type) where
  tpl : Tpl
  run : List P1 → (Nat → List P1 → Option α) → (Res → Option α) → Option α

/-! ### the evaluator -/
structure Env (α : Type) where
  P : Program
  /-- What a function does with data. -/
  C : FuncId → List D → (Res → Option α) → Option α
  /-- Which arguments it is lent. -/
  M : FuncId → List Nat
  /-- Types whose values are compared cell by cell. -/
  eqs : TypeId → Nat → Bool
  lp : Nat → Option (Lp α)
  /-- What is known at a region, where ways meet. -/
  jt : Nat → Option Tpl
  /-- The numbers of new blocks begin here. -/
  low : Nat
  res : St → (Res → Option α) → Option α
  /-- An empty slice held against nil: are both ways gone? -/
  two : Bool := false

/-- The number of a new block. -/
def newId (E : Env α) (dst : Option Tmp) (k : Nat → Option α) : Option α := bif Nat.ble E.low (siteOf dst) then k (siteOf dst) else none

def tupOf : List AV → AV
  | [v] => v
  | vs => .tup vs

def evCall (E : Env α) (dst : Option Tmp) (f : AV) (args : List AV) (st : St) (k : St → Option α) : Option α :=
  match f with
  | .fn g caps =>
    (lentIds (E.M g) (args ++ caps)).bind fun ids => bif nodupN ids then
      (argsD ids st.heap (E.M g) (args ++ caps)).bind fun ds =>
      E.C g ds fun r =>
        (backG st.heap ids r.outs).bind fun h =>
        newId E dst fun id => imps ⟨{ st with heap := h }, args ++ caps, [], id⟩ r.rs fun i => k (i.st.put dst (tupOf i.acc))
    else none
  | _ => none

/-- What is appended. -/
def srcRows (h : Heap) (t : Ty) : AV → Option (List t.den)
  | .sl id => (look h id).bind fun b => match b with
    | .rows _ _ t' l => if h : t' = t then some (h ▸ l) else none
    | _ => none
  | .sub id lo n => (look h id).bind fun b => match b with
    | .rows _ _ t' l => if h : t' = t then some (((h ▸ l : List t.den).drop lo).take n) else none
    | _ => none
  | .nilsl => some []
  | .emp => some []
  | _ => none

/-- Elements of so few bytes that a slice of them within 'big' fits. -/
def bytesOk (P : Program) (e : TypeId) : Bool :=
  match P.info? e with
  | some i => Nat.ble i.bytes 128
  | none => false

def evAppend (E : Env α) (T : TypeId) (dst : Option Tmp) (s x : AV) (st : St) (k : St → Option α) : Option α :=
  match E.P.underlying T with
  | some (.slice e) => (tyOf E.P e).bind fun t => bif bytesOk E.P e then (sizeT E.P e).bind fun sz => bif Nat.beq sz t.w then (srcRows st.heap t x).bind fun xs =>
    match s with
    | .sl id => (look st.heap id).bind fun b => match b with
      | .rows m e' t' l => bif Nat.beq m 2 && Nat.beq e e' then (if h : t' = t then
          bif decide (l.length + xs.length ≤ big) then k ((st.fresh id (.rows 2 e t ((h ▸ l : List t.den) ++ xs))).put dst (.sl id)) else none
        else none) else none
      | _ => none
    | .sub id 0 n => (look st.heap id).bind fun b => match b with
      | .rows m e' t' l => bif Nat.beq m 2 && Nat.beq e e' then (if h : t' = t then
          bif decide (n + xs.length ≤ big) then k ((st.fresh id (.rows 2 e t ((h ▸ l : List t.den).take n ++ xs))).put dst (.sl id)) else none
        else none) else none
      | _ => none
    | .nilsl | .emp => bif decide (xs.length ≤ big) then newId E dst fun id => k ((st.fresh id (.rows 2 e t xs)).put dst (.sl id)) else none
    | _ => none
    else none else none
  | _ => none

/-- So many zeros, appended to an empty slice. -/
def evAppendZ (E : Env α) (T : TypeId) (dst : Option Tmp) (s x : AV) (st : St) (k : St → Option α) : Option α :=
  match E.P.underlying T with
  | some (.slice e) => (tyOf E.P e).bind fun t => (zeroOf E.P e).bind fun z => (t.dec (cellsOf z)).bind fun d => bif bytesOk E.P e then (sizeT E.P e).bind fun sz => bif Nat.beq sz t.w then
    match s, x with
    | .nilsl, .int .i64 n | .emp, .int .i64 n => bif decide (1 ≤ n) && decide (n ≤ (big : Int)) then newId E dst fun id => k ((st.fresh id (.rows 2 e t (List.replicate n.toNat d))).put dst (.sl id)) else none
    | _, _ => none
    else none else none
  | _ => none

/-- How many elements a slice has. -/
def lenAV (h : Heap) : AV → Option Nat
  | .sl id => (look h id).map Blk.n
  | .sub _ _ n => some n
  | .nilsl => some 0
  | .emp => some 0
  | .str s => some s.size
  | _ => none

def foldMM (f : Int → Int → Int) (ka : IntKind) (x : Int) : List AV → (AV → Option α) → Option α
  | [], k => k (.int ka x)
  | .int kb y :: r, k => if ka = kb then foldMM f ka (f x y) r k else none
  | _ :: _, _ => none

def evBuiltin (E : Env α) (dst : Option Tmp) (b : Builtin) (ts : List TypeId) (args : List AV) (st : St) (k : St → Option α) : Option α :=
  match b, args with
  | .len, [x] => match ts with
    | [t] => match E.P.underlying t, x with
      | some (.slice _), .str _ => none
      | some .string, .str s => k (st.put dst (.int .i64 s.size))
      | some (.slice _), x => (lenAV st.heap x).bind fun n => k (st.put dst (.int .i64 n))
      | _, _ => none
    | _ => none
  | .cap, [x] => match ts with
    | [t] => match E.P.underlying t, x with
      | some (.slice _), .nilsl => k (st.put dst (.int .i64 0))
      | some (.slice _), .emp => k (st.put dst (.int .i64 0))
      | _, _ => none
    | _ => none
  | .append, [s, x] => match ts with
    | [t, u] => match E.P.underlying u with
      | some (.slice _) => evAppend E t dst s x st k
      | some (.int _) => evAppendZ E t dst s x st k
      | _ => none
    | _ => none
  | .max, .int ka x :: r => foldMM max ka x r fun v => k (st.put dst v)
  | .min, .int ka x :: r => foldMM min ka x r fun v => k (st.put dst v)
  | .clear, [.sub id lo n] => match ts with
    | [T] => match E.P.underlying T with
      | some (.slice e) => (look st.heap id).bind fun b => match b with
        | .rows m e' t l => (zeroOf E.P e).bind fun z => (t.dec (cellsOf z)).bind fun d => bif !Nat.beq m 0 && Nat.beq e e' then k ({ st with heap := upd st.heap id (.rows m e' t (l.take lo ++ List.replicate n d ++ l.drop (lo + n))) }.put dst (.tup [])) else none
        | _ => none
      | _ => none
    | _ => none
  | _, _ => none

/-- A bound of a slice expression: a number from 0 to 'high'. -/
def bound (v : Option AV) (dflt high : Nat) (k : Nat → Option α) : Option α :=
  match v with
  | none => k dflt
  | some (.int _ n) => bif decide (0 ≤ n) && decide (n ≤ (high : Int)) then k n.toNat else none
  | some _ => none

def evSliceV (P : Program) (T : TypeId) (x : AV) (lo hi mx : Option AV) (h : Heap) (v : AV → Option α) : Option α :=
  match P.underlying T, mx with
  | some .string, none => match x with
    | .str s => bound hi s.size s.size fun h => bound lo 0 h fun l => v (.str (s.extract l h))
    | _ => none
  | some (.slice e), none => match x with
    | .sl id => (look h id).bind fun b => (sizeT P e).bind fun s => bif Nat.beq s b.w then bound hi b.n b.n fun h => bound lo 0 h fun l => v (.sub id l (h - l)) else none
    | .sub id a n => (look h id).bind fun b => (sizeT P e).bind fun s => bif Nat.beq s b.w then bound hi n n fun h => bound lo 0 h fun l => v (.sub id (moved a l 1) (h - l)) else none
    | .nilsl => (sizeT P e).bind fun _ => bound hi 0 0 fun h => bound lo 0 h fun _ => v .nilsl
    | .emp => (sizeT P e).bind fun _ => bound hi 0 0 fun h => bound lo 0 h fun _ => v .emp
    | _ => none
  | some (.slice e), some (.int _ 0) => (sizeT P e).bind fun _ => match x, lo, hi with
    | .sl _, some (.int _ 0), some (.int _ 0) => v .emp
    | .sub _ _ _, some (.int _ 0), some (.int _ 0) => v .emp
    | .nilsl, some (.int _ 0), some (.int _ 0) => v .emp
    | _, _, _ => none
  | _, _ => none

def evSlice (P : Program) (T : TypeId) (dst : Option Tmp) (x : AV) (lo hi mx : Option AV) (st : St) (k : St → Option α) : Option α := evSliceV P T x lo hi mx st.heap fun v => k (st.put dst v)

/-- Parts laid into cells. -/
def fillAV (place : Nat → Option (Nat × Nat)) (cells : List AV) : List (Nat × AV) → Option (List AV)
  | [] => some cells
  | (i, v) :: r => (place i).bind fun (off, size) => bif allCells (cellsOf v) && (Nat.beq (cellsOf v).length size && Nat.ble (off + size) cells.length) then fillAV place (setAll cells off (cellsOf v)) r else none

def zerosAV (z : List AV) : Nat → List AV
  | 0 => []
  | n + 1 => z ++ zerosAV z n

def fieldPlaces (P : Program) (fs : List Field) (i : Nat) : Option (Nat × Nat) := (fs[i]?).bind fun f => (sizeT P f.type).map fun n => (f.offset, n)

def allSized (P : Program) : List Field → Bool
  | [] => true
  | f :: r => (match sizeT P f.type with
    | some _ => true
    | none => false) && allSized P r

def evBuild (P : Program) (t : TypeId) (parts : List (Nat × AV)) : Option AV :=
  (zeroOf P t).bind fun z => match P.underlying t with
    | some (.struct fs) => bif allSized P fs.toList then (fillAV (fieldPlaces P fs.toList) (cellsOf z) parts).map .agg else none
    | some (.array _ e) => (sizeT P e).bind fun s => (fillAV (fun i => some (i * s, s)) (cellsOf z) parts).map .agg
    | _ => none

/-- The block of a slice literal. -/
def sliceBlk (P : Program) (e : TypeId) (s len : Nat) (cells : List AV) : Option Blk :=
  match tyOf P e with
  | some t => bif Nat.beq t.w s then (decRows t len cells).map fun l => .rows 2 e t l else none
  | none => bif allCells cells && (Nat.beq cells.length len && Nat.beq s 1) then some (.mix 2 e cells) else none

def evBuildSlice (P : Program) (T : TypeId) (len : Nat) (parts : List (Nat × AV)) : Option Blk :=
  match P.underlying T with
  | some (.slice e) => (sizeT P e).bind fun s => bif Nat.ble (len * s) 4096 then (zeroOf P e).bind fun z => bif allCells (cellsOf z) && Nat.beq (cellsOf z).length s then
      (fillAV (fun i => some (i * s, s)) (zerosAV (cellsOf z) len) parts).bind fun cells => sliceBlk P e s len cells
    else none else none
  | _ => none

def oneOf (cs : List AV) (k : AV → Option α) : Option α :=
  match cs with
  | [x] => k x
  | _ => none

/-! ### maps -/
/-- A row as a value. -/
def rowAV : (t : Ty) → t.den → AV
  | .int k, n => .int k n
  | .bool, b => .bool b
  | .str, s => .str s
  | .pt, p => .agg (Ty.enc .pt p)
  | .tr, p => .agg (Ty.enc .tr p)
  | .qd, p => .agg (Ty.enc .qd p)
  | .hx, p => .agg (Ty.enc .hx p)

/-- A value as a row. -/
def avRow (t : Ty) (x : AV) : Option t.den := match x with
  | .agg l => bif Nat.beq t.w 1 then none else t.dec l
  | x => bif Nat.beq t.w 1 then t.dec [x] else none

/-- Are two keys the same? -/
def keyEq : (t : Ty) → t.den → t.den → Bool
  | .int _, x, y => decide (x = y)
  | .bool, x, y => x == y
  | .str, x, y => decide (x = y)
  | .pt, x, y => decide (x.1 = y.1) && decide (x.2 = y.2)
  | .tr, x, y => decide (x.1 = y.1) && (decide (x.2.1 = y.2.1) && decide (x.2.2 = y.2.2))
  | .qd, x, y => decide (x.1 = y.1) && (decide (x.2.1 = y.2.1) && (decide (x.2.2.1 = y.2.2.1) && decide (x.2.2.2 = y.2.2.2)))
  | .hx, x, y => decide (x.1 = y.1) && (decide (x.2.1 = y.2.1) && (decide (x.2.2.1 = y.2.2.1) && (decide (x.2.2.2.1 = y.2.2.2.1) && (decide (x.2.2.2.2.1 = y.2.2.2.2.1) && decide (x.2.2.2.2.2 = y.2.2.2.2.2)))))

/-- What a map holds at a key. -/
def getM (kt vt : Ty) : List kt.den → List vt.den → kt.den → vt.den → vt.den
  | x :: ks, v :: vs, k, d => bif keyEq kt k x then v else getM kt vt ks vs k d
  | _, _, _, d => d

/-- The keys behind a write. -/
def putK (kt : Ty) : List kt.den → kt.den → List kt.den
  | [], k => [k]
  | x :: ks, k => bif keyEq kt k x then x :: ks else x :: putK kt ks k

/-- The values behind a write. -/
def putV (kt vt : Ty) : List kt.den → List vt.den → kt.den → vt.den → List vt.den
  | x :: ks, u :: vs, k, v => bif keyEq kt k x then v :: vs else u :: putV kt vt ks vs k v
  | _, _, _, v => [v]

/-- A struct of plain fields within so many cells. -/
def flatKey (P : Program) (w : Nat) : List Field → Bool
  | [] => true
  | f :: r => P.plainKey f.type && Nat.blt f.offset w && flatKey P w r

/-- Keys of a type are compared cell by cell. -/
def keyOK (P : Program) (eqs : TypeId → Nat → Bool) (t : TypeId) (K : Ty) : Bool := match K with
  | .int k => match P.underlying t with
    | some (.int k') => decide (k = k')
    | _ => false
  | .bool => false
  | .str => false
  | _ => eqs t K.w && match P.underlying t with
    | some (.struct fs) => flatKey P K.w fs.toList
    | _ => false

/-- Is it the same operand? -/
def sameOp : Operand → Operand → Bool
  | .tmp i, .tmp j => Nat.beq i j
  | .const (.int .i64 (.ofNat m)), .const (.int .i64 (.ofNat n)) => Nat.beq m n
  | _, _ => false

def evOp (E : Env α) (o : Oper) (st : St) (k : St → Option α) : Option α :=
  let v (x : AV) : Option α := k (st.put o.dst x)
  match o.op with
  | .move x | .assign x => v (st.get x)
  | .nilCheck x => match st.get x with
    | .ptr id r c => v (.ptr id r c)
    | _ => none
  | .pick c a b => match st.get c with
    | .bool t => bif t then v (st.get a) else v (st.get b)
    | _ => none
  | .alloc t => (zeroOf E.P t).bind fun z => bif allCells (cellsOf z) then newId E o.dst fun id => bif AV.namesAll id (cellsOf z) then none else k ((st.fresh id (boxBlk 2 t (cellsOf z))).put o.dst (.ptr id 0 0)) else none
  | .box t x => bif allCells (cellsOf (st.get x)) then newId E o.dst fun id => bif AV.namesAll id (cellsOf (st.get x)) then none else k ((st.fresh id (boxBlk 2 t (cellsOf (st.get x)))).put o.dst (.ptr id 0 0)) else none
  | .build t parts => (evBuild E.P t (parts.toList.map fun (i, x) => (i, st.get x))).bind v
  | .buildSlice t len parts => (evBuildSlice E.P t len (parts.toList.map fun (i, x) => (i, st.get x))).bind fun b =>
      newId E o.dst fun id => bif AV.namesAll id b.flat then none else k ((st.fresh id b).put o.dst (.sl id))
  | .makeSlice t l c => match E.P.underlying t, st.get l with
    | some (.slice e), .int .i64 n => (tyOf E.P e).bind fun ty => (zeroOf E.P e).bind fun z => (ty.dec (cellsOf z)).bind fun x => (sizeT E.P e).bind fun sz =>
        bif Nat.beq sz ty.w && (bytesOk E.P e && sameOp l c) then
        bif decide (0 ≤ n) && decide (n ≤ (big : Int)) then newId E o.dst fun id => k ((st.fresh id (.rows 2 e ty (List.replicate n.toNat x))).put o.dst (.sl id)) else none
        else none
    | _, _ => none
  | .load t a => match st.get a with
    | .ptr id r c => (look st.heap id).bind fun b => (sizeT E.P t).bind fun n => (aggT E.P t).bind fun ag =>
      b.read r c n fun cs => bif ag then v (.agg cs) else oneOf cs v
    | _ => none
  | .store t a x => match st.get a with
    | .ptr id r c => (look st.heap id).bind fun b => (sizeT E.P t).bind fun n =>
      bif Nat.beq (cellsOf (st.get x)).length n then b.write r c (cellsOf (st.get x)) fun b' => k ({ st with heap := upd st.heap id b' }.put o.dst .undef) else none
    | _ => none
  | .binOp op t x y _ => evBin E.P E.eqs t op (st.get x) (st.get y) v
  | .unOp op _ x => evUn op (st.get x) v
  | .convert s d x => match E.P.underlying s, E.P.underlying d, st.get x with
    | some _, some (.int k), .int _ n => v (.int k (k.wrap n))
    | some _, some .string, .str s => v (.str s)
    | _, _, _ => none
  | .fieldAddr s x f => match E.P.underlying s, st.get x with
    | some (.struct fs), .ptr id r c => (fs[f]?).bind fun fd => (sizeT E.P fd.type).bind fun n => bif Nat.beq n 0 then none else (look st.heap id).bind fun b =>
      bif Nat.beq b.w 1 then v (.ptr id (moved r fd.offset 1) c) else v (.ptr id r (moved c fd.offset 1))
    | _, _ => none
  | .field t x f => match E.P.underlying t, st.get x with
    | some (.struct fs), .agg l => (fs[f]?).bind fun fd => (sizeT E.P fd.type).bind fun n => (aggT E.P fd.type).bind fun ag =>
      bif ag then v (.agg ((l.drop fd.offset).take n)) else (l[fd.offset]?).bind v
    | _, _ => none
  | .indexAddr t x i => match E.P.underlying t, st.get x, st.get i with
    | some (.array len e), .ptr id r c, .int _ n => (sizeT E.P e).bind fun s => (look st.heap id).bind fun b =>
      bif decide (0 ≤ n) && decide (n < (len : Int)) then bif Nat.beq b.w 1 then v (.ptr id (moved r n.toNat s) c) else v (.ptr id r (moved c n.toNat s))
      else none
    | some (.slice e), .sl id, .int _ n => (sizeT E.P e).bind fun s => (look st.heap id).bind fun b =>
      bif Nat.beq s b.w then bif decide (0 ≤ n) && decide (n < (b.n : Int)) then v (.ptr id n.toNat 0) else none else none
    | some (.slice e), .sub id lo m, .int _ n => (sizeT E.P e).bind fun s => (look st.heap id).bind fun b =>
      bif Nat.beq s b.w then bif decide (0 ≤ n) && decide (n < (m : Int)) then v (.ptr id (moved lo n.toNat 1) 0) else none else none
    | _, _, _ => none
  | .index t x i => match E.P.underlying t, st.get x, st.get i with
    | some .string, .str s, .int _ n => bif decide (0 ≤ n) then (s.data.toList[n.toNat]?).bind fun c => v (.int .u8 c.toNat) else none
    | some (.array len e), .agg l, .int _ n => (sizeT E.P e).bind fun s => (aggT E.P e).bind fun ag =>
      bif decide (0 ≤ n) && decide (n < (len : Int)) then bif ag then v (.agg ((l.drop (moved 0 n.toNat s)).take s)) else (l[moved 0 n.toNat s]?).bind v
      else none
    | _, _, _ => none
  | .slice t x lo hi mx => evSlice E.P t o.dst (st.get x) (lo.map st.get) (hi.map st.get) (mx.map st.get) st k
  | .extract x i => match st.get x with
    | .tup l => (l[i]?).bind v
    | _ => none
  | .makeMap t r => match r, E.P.underlying t with
    | none, some (.map kt et) => (tyOf E.P kt).bind fun K => (tyOf E.P et).bind fun V => newId E o.dst fun id => k ((st.fresh id (.map t K V [] [])).put o.dst (.map id))
    | _, _ => none
  | .lookup t x i ok => bif ok then none else match E.P.underlying t, st.get x with
    | some (.map kt et), .map id => (look st.heap id).bind fun b => match b with
      | .map _ K V ks vs => (zeroOf E.P et).bind fun z => (avRow V z).bind fun d => (avRow K (st.get i)).bind fun key =>
        bif keyOK E.P E.eqs kt K then v (rowAV V (getM K V ks vs key d)) else none
      | _ => none
    | _, _ => none
  | .mapUpdate t x i y => match E.P.underlying t, st.get x with
    | some (.map kt _), .map id => (look st.heap id).bind fun b => match b with
      | .map e K V ks vs => (avRow V (st.get y)).bind fun u => (avRow K (st.get i)).bind fun key =>
        bif keyOK E.P E.eqs kt K then k ({ st with heap := upd st.heap id (.map e K V (putK K ks key) (putV K V ks vs key u)) }.put o.dst .undef) else none
      | _ => none
    | _, _ => none
  | .makeFunc fn first caps => match fn, first.toList with
    | .func f, [] => v (.fn f (caps.toList.map st.get))
    | _, _ => none
  | .call c => match c.callee with
    | .value f => evCall E o.dst (st.get f) (c.args.toList.map st.get) st k
    | .builtin b => evBuiltin E o.dst b c.argTypes.toList (c.args.toList.map st.get) st k
    | .invoke _ _ => none
  | _ => none

/-- The answer of a guard's operation: its slot, and the answer. -/
def yields (ops : Array Oper) (j : Nat) (st : St) : Option (Nat × Bool) :=
  ((ops[j]?).bind (·.dst)).bind fun d => match st.slots.getD d .undef with
    | .bool b => some (d, b)
    | _ => none

/-- A guard's operation that was itself passed over. -/
def voided (ops : Array Oper) (j : Nat) (st : St) : Bool :=
  match (ops[j]?).bind (·.dst) with
  | some d => match st.slots.getD d .undef with
    | .tup l => match l with
      | [] => true
      | _ :: _ => false
    | _ => false
  | none => false

/-- Both ways, if they come to the same. -/
noncomputable def both (a b : Option α) : Option α := @ite _ (a = b) (Classical.propDecidable _) a none

noncomputable def evTwo (two : Bool) (k : Bool → Option α) : Option α := bif two then both (k true) (k false) else none

/-- Is a slice nil? Of an empty one that is not known: nothing goes on, or both ways ('two'). -/
noncomputable def evNil (two : Bool) (h : Heap) (x : AV) (k : Bool → Option α) : Option α := match x with
  | .nilsl => k true
  | .emp => evTwo two k
  | .sl id => (look h id).bind fun b => bif Nat.beq b.n 0 then evTwo two k else k false
  | .sub _ _ n => bif Nat.beq n 0 then evTwo two k else k false
  | _ => none

/-- An operation; slices are held against nil here. -/
noncomputable def evOpN (E : Env α) (o : Oper) (st : St) (k : St → Option α) : Option α := match o.op with
  | .binOp op t x y _ => match st.get y with
    | .nilsl => match E.P.underlying t, op with
      | some (.slice _), .eql => evNil E.two st.heap (st.get x) fun b => k (st.put o.dst (.bool b))
      | some (.slice _), .neq => evNil E.two st.heap (st.get x) fun b => k (st.put o.dst (.bool (!b)))
      | _, _ => none
    | _ => evOp E o st k
  | _ => evOp E o st k

noncomputable def evOps (E : Env α) (ops : Array Oper) : List Oper → St → (St → Option α) → Option α
  | [], st, k => k st
  | o :: rest, st, k =>
    match o.guard with
    | none => evOpN E o st fun st => evOps E ops rest st k
    | some (j, want) => match yields ops j st with
      | some (d, b) =>
        bif b then
          (bif want then evOpN E o (st.put (some d) (.bool true)) fun st => evOps E ops rest st k else evOps E ops rest ((st.put (some d) (.bool true)).put o.dst (.tup [])) k)
        else
          (bif want then evOps E ops rest ((st.put (some d) (.bool false)).put o.dst (.tup [])) k else evOpN E o (st.put (some d) (.bool false)) fun st => evOps E ops rest st k)
      | none => bif voided ops j st then evOps E ops rest (st.put o.dst (.tup [])) k else none

/-! ### regions that draw their order -/
/-- Operations that read alone. -/
def isVal : Op → Bool
  | .move _ => true
  | .nilCheck _ => true
  | .slice _ _ _ _ _ => true
  | .build _ _ => true
  | .assign _ => true
  | .load _ _ => true
  | .binOp _ _ _ _ _ => true
  | .unOp _ _ _ => true
  | .convert _ _ _ => true
  | .fieldAddr _ _ _ => true
  | .field _ _ _ => true
  | .indexAddr _ _ _ => true
  | .index _ _ _ => true
  | .extract _ _ => true
  | .pick _ _ _ => true
  | .call c => match c.callee with
    | .builtin .len => true
    | .builtin .max => true
    | .builtin .min => true
    | _ => false
  | _ => false

def isCallV : Op → Bool
  | .call c => match c.callee with
    | .value _ => true
    | _ => false
  | _ => false

def tmpsIn : List Operand → List Nat
  | [] => []
  | .tmp t :: r => t :: tmpsIn r
  | _ :: r => tmpsIn r

/-- The slots that an operation's guard reads. -/
def guardTmps (ops : Array Oper) (o : Oper) : List Nat :=
  match o.guard with
  | none => []
  | some (j, _) => match (ops[j]?).bind (·.dst) with
    | some d => [d]
    | none => []

/-- Operations that lay a block of their own. -/
def isMake : Op → Bool
  | .alloc _ => true
  | .box _ _ => true
  | .buildSlice _ _ _ => true
  | .makeSlice _ _ _ => true
  | _ => false

def isAppend : Op → Bool
  | .call c => match c.callee with
    | .builtin b => match b with
      | .append => true
      | _ => false
    | _ => false
  | _ => false

/-- What neither writes nor calls. -/
def isPure (o : Op) : Bool := isVal o || isMake o

/-- What may lay blocks. -/
def isMaker (o : Op) : Bool := isMake o || isCallV o

/-- May two operations be taken in either order, the first ahead in the order of the text? -/
def swapOK (ops : Array Oper) (a b : Oper) : Bool := (isPure a.op && isPure b.op) && (match a.dst, b.dst with
  | some x, some y => !Nat.beq x y && (!memN x (tmpsIn b.op.operands.toList ++ guardTmps ops b) && !memN y (tmpsIn a.op.operands.toList ++ guardTmps ops a))
  | _, _ => false)

/-- Values that do not hang on the blocks. -/
def memFree : Op → Bool
  | .move _ => true
  | .nilCheck _ => true
  | .build _ _ => true
  | .assign _ => true
  | .pick _ _ _ => true
  | .binOp _ _ _ _ _ => true
  | .unOp _ _ _ => true
  | .convert _ _ _ => true
  | .field _ _ _ => true
  | .index _ _ _ => true
  | .extract _ _ => true
  | .call c => match c.callee with
    | .builtin .max => true
    | .builtin .min => true
    | _ => false
  | _ => false

/-- Values that hang on the blocks' forms alone. -/
def shapeOp : Op → Bool
  | .slice _ _ _ _ _ => true
  | .fieldAddr _ _ _ => true
  | .indexAddr _ _ _ => true
  | .call c => match c.callee with
    | .builtin .len => true
    | _ => false
  | _ => false

def depsOf : List Edge → List Nat
  | [] => []
  | e :: r => bif Region.binds .any e then e.on :: depsOf r else depsOf r

def subN : List Nat → List Nat → Bool
  | [], _ => true
  | x :: r, l => memN x l && subN r l

def readyQ (ops : Array Oper) (done : List Nat) (i : Nat) : Bool := !memN i done && (match ops[i]? with
  | some o => subN (depsOf o.after.toList) done
  | none => false)

def firstQ (p : Nat → Bool) : Nat → Nat → Option Nat
  | _, 0 => none
  | i, n + 1 => bif p i then some i else firstQ p (i + 1) n

def pureAt (ops : Array Oper) (i : Nat) : Bool := match ops[i]? with
  | some o => isPure o.op
  | none => false

/-- The order in which such a region is read: what neither writes nor calls as early as may be. -/
def orderQ (ops : Array Oper) : Nat → List Nat → List Nat
  | 0, done => done.reverse
  | n + 1, done => match firstQ (fun i => readyQ ops done i && pureAt ops i) 0 ops.size with
    | some i => orderQ ops n (i :: done)
    | none => match firstQ (readyQ ops done) 0 ops.size with
      | some i => orderQ ops n (i :: done)
      | none => done.reverse

def lookA : List (Nat × List Nat) → Nat → List Nat
  | [], _ => []
  | (j, l) :: r, i => bif Nat.beq j i then l else lookA r i

def joinN : List Nat → List Nat → List Nat
  | [], l => l
  | x :: r, l => bif memN x l then joinN r l else joinN r (x :: l)

/-- All that an operation waits for. -/
def waitsFor (t : List (Nat × List Nat)) : List Nat → List Nat
  | [] => []
  | e :: r => joinN (e :: lookA t e) (waitsFor t r)

/-- What each operation waits for. -/
def ancFrom (ops : Array Oper) : Nat → Nat → List (Nat × List Nat) → List (Nat × List Nat)
  | 0, _, t => t
  | n + 1, i, t => ancFrom ops n (i + 1) ((i, waitsFor t (match ops[i]? with
    | some o => depsOf o.after.toList
    | none => [])) :: t)

def loadsOut (anc : List Nat) : Nat → List Oper → List Nat
  | _, [] => []
  | j, o :: r => match o.op with
    | .load _ x => match x with
      | .tmp s => bif memN j anc then loadsOut anc (j + 1) r else s :: loadsOut anc (j + 1) r
      | _ => loadsOut anc (j + 1) r
    | _ => loadsOut anc (j + 1) r

/-- What the values that read the blocks, and that an operation does not wait for, go by. -/
def readsOut (anc : List Nat) : Nat → List Oper → List Nat
  | _, [] => []
  | j, o :: r => bif isVal o.op && !memFree o.op && !memN j anc then tmpsIn o.op.operands.toList ++ readsOut anc (j + 1) r else readsOut anc (j + 1) r

/-- What stands ahead of an operation in an order. -/
def aheadOf (i : Nat) : List Nat → List Nat
  | [] => []
  | j :: r => bif Nat.beq j i then [] else j :: aheadOf i r

/-- What the values that may stand behind an append go by, and what they set. -/
def pastApp (ops : Array Oper) (anc : List Nat) : List Nat → List Nat
  | [] => []
  | j :: r => match ops[j]? with
    | some o => bif isVal o.op && !memN j anc then tmpsIn o.op.operands.toList ++ (match o.dst with
      | some d => d :: pastApp ops anc r
      | none => pastApp ops anc r) else pastApp ops anc r
    | none => pastApp ops anc r

/-- The places that are read in either order with a write: they are looked at when it is done. -/
def chkSlots (ops : Array Oper) (i : Nat) : List Nat := match ops[i]? with
  | some o => match o.op with
    | .store _ _ _ => loadsOut (lookA (ancFrom ops ops.size 0 []) i) 0 ops.toList
    | .call c => match c.callee with
      | .value _ => readsOut (lookA (ancFrom ops ops.size 0 []) i) 0 ops.toList
      | .builtin b => match b with
        | .append => pastApp ops (lookA (ancFrom ops ops.size 0 []) i) (aheadOf i (orderQ ops ops.size []))
        | _ => []
      | _ => []
    | _ => []
  | none => []

def loadChk (o : Op) (l : List Nat) : Bool := match o with
  | .load _ x => match x with
    | .tmp s => memN s l
    | _ => false
  | _ => false

def rmN (x : Nat) : List Nat → List Nat
  | [] => []
  | y :: r => bif Nat.beq x y then rmN x r else y :: rmN x r

/-- Without the slot that an operation sets. -/
def minus1 (ops : Array Oper) (j : Nat) (L : List Nat) : List Nat := match (ops[j]?).bind (·.dst) with
  | some x => rmN x L
  | none => L

/-- May a value and a write be swapped? 'L': the places that are looked at behind the value. -/
def swapMem (ops : Array Oper) (L : List Nat) (a : Oper) (b : Oper) : Bool := match b.op with
  | .store _ _ _ => match a.dst, b.dst with
    | some x, none => !memN x (tmpsIn b.op.operands.toList ++ guardTmps ops b) && (isPure a.op && (memFree a.op || isMake a.op || shapeOp a.op || loadChk a.op (rmN x L)))
    | _, _ => false
  | _ => false

/-- May a value and a call be swapped? 'L': what is looked at behind the value. -/
def swapCall (ops : Array Oper) (L : List Nat) (a : Oper) (b : Oper) : Bool := (isPure a.op && isCallV b.op) && (match a.dst, b.dst with
  | some x, some y => (!Nat.beq x y && (!memN x (tmpsIn b.op.operands.toList ++ guardTmps ops b) && !memN y (tmpsIn a.op.operands.toList ++ guardTmps ops a))) && (memFree a.op || isMake a.op || subN (tmpsIn a.op.operands.toList) (rmN x L))
  | _, _ => false)

/-- May a value and an append be swapped? 'L': what is looked at behind the value. -/
def swapApp (ops : Array Oper) (L : List Nat) (a : Oper) (b : Oper) : Bool := (isVal a.op && ((memFree a.op || shapeOp a.op) && isAppend b.op)) && (match a.dst, b.dst with
  | some x, some y => (!Nat.beq x y && (!memN x (tmpsIn b.op.operands.toList ++ guardTmps ops b) && !memN y (tmpsIn a.op.operands.toList ++ guardTmps ops a))) && (memN x L && subN (tmpsIn a.op.operands.toList) (rmN x L))
  | _, _ => false)

def dstOf (o : Oper) : Nat := o.dst.getD 0

def makersOut (anc : List Nat) (i : Nat) : Nat → List Oper → List Nat
  | _, [] => []
  | j, o :: r => bif isMaker o.op && (!Nat.beq j i && !memN j anc) then dstOf o :: makersOut anc i (j + 1) r else makersOut anc i (j + 1) r

/-- The sites of blocks that an operation's value must not name: they may be laid behind it. -/
def freeSites (ops : Array Oper) (i : Nat) : List Nat := makersOut (lookA (ancFrom ops ops.size 0 []) i) i 0 ops.toList

def siteFree (ops : Array Oper) (o : Oper) (j : Nat) : Bool := !isMaker o.op || (memN (dstOf o) (freeSites ops j) && (match ops[j]? with
  | some oj => !Nat.beq (dstOf o) (dstOf oj)
  | none => false))

/-- Each operation in turn: ready, and behind each elder one that it may not pass. 'seen': those ahead of it, with what they wait for. -/
def ordFrom (ops : Array Oper) : List Nat → List (Nat × List Nat) → List Nat → Bool
  | [], _, done => allIn ops.size done
  | i :: r, t, done => match ops[i]? with
    | some o => (readyQ ops done i && (pairsOK ops i o (waitsFor t (depsOf o.after.toList)) (chkSlots ops i) done && ordFrom ops r ((i, waitsFor t (depsOf o.after.toList)) :: t) (i :: done)))
    | none => false
where
  allIn : Nat → List Nat → Bool
    | 0, _ => true
    | n + 1, l => memN n l && allIn n l
  pairsOK (ops : Array Oper) (i : Nat) (o : Oper) (w : List Nat) : List Nat → List Nat → Bool
    | _, [] => true
    | L, j :: r => (siteFree ops o j && (memN j w || (match ops[j]? with
      | some oj => (swapOK ops oj o || swapMem ops L oj o || swapCall ops L oj o || swapApp ops L oj o) && siteFree ops oj i
      | none => false))) && pairsOK ops i o w (minus1 ops j L) r

/-! sites: where an operation lays its blocks -/
mutual
def AV.at (d : Nat) : AV → Bool
  | .ptr j _ _ => Nat.beq (j / 64) d
  | .sl j => Nat.beq (j / 64) d
  | .sub j _ _ => Nat.beq (j / 64) d
  | .agg l => AV.atAll d l
  | .tup l => AV.atAll d l
  | .fn _ l => AV.atAll d l
  | .map j => Nat.beq (j / 64) d
  | _ => false
def AV.atAll (d : Nat) : List AV → Bool
  | [] => false
  | x :: r => x.at d || AV.atAll d r
end

def Blk.at (d : Nat) : Blk → Bool
  | .mix _ _ l => AV.atAll d l
  | _ => false

def heapAt (d : Nat) : Heap → Bool
  | [] => false
  | (j, b) :: r => Nat.beq (j / 64) d || (b.at d || heapAt d r)

def dropAV (d : Nat) (v : AV) : AV := bif v.at d then .undef else v

def dropBlk (d : Nat) : Blk → Blk
  | .mix m e l => .mix m e (l.map (dropAV d))
  | b => b

def dropHeap (d : Nat) : Heap → Heap
  | [] => []
  | (j, b) :: r => bif Nat.beq (j / 64) d then dropHeap d r else (j, dropBlk d b) :: dropHeap d r

/-- What a site laid before is forgotten. -/
def St.drop (st : St) (d : Nat) : St := ⟨st.slots.map (dropAV d), dropHeap d st.heap⟩

def dropAll : List Nat → St → St
  | [], st => st
  | d :: r, st => dropAll r (st.drop d)

def makerSites : List Oper → List Nat
  | [] => []
  | o :: r => bif isMaker o.op then dstOf o :: makerSites r else makerSites r

/-- A block, at its number's place. -/
def insH (id : Nat) (b : Blk) : Heap → Heap
  | [] => [(id, b)]
  | (j, c) :: r => bif Nat.ble j id then (j, c) :: insH id b r else (id, b) :: (j, c) :: r

def insAll : List (Nat × Blk) → Heap → Heap
  | [], h => h
  | (id, b) :: r, h => insAll r (insH id b h)

def mkSt (st : St) (dst : Option Tmp) (bs : List (Nat × Blk)) (v : AV) : St := St.put ⟨st.slots, insAll bs st.heap⟩ dst v

def okVal : List Nat → AV → Bool
  | [], _ => true
  | d :: r, v => !v.at d && okVal r v

def okBlks (ns : List Nat) : List (Nat × Blk) → Bool
  | [] => true
  | (_, b) :: r => (match b with
    | .mix _ _ l => okVal ns (.agg l)
    | _ => true) && okBlks ns r

def valOf (dst : Option Tmp) (st : St) : AV := match dst with
  | some d => st.slots.getD d .undef
  | none => .undef

/-- A block that an operation lays, and what names it. -/
def makeQ (E : Env α) (o : Oper) (st : St) : Option (Blk × AV) :=
  bif Nat.ble E.low (siteOf o.dst) then match o.op with
  | .alloc t => (zeroOf E.P t).bind fun z => bif allCells (cellsOf z) && !AV.namesAll (siteOf o.dst) (cellsOf z) then some (boxBlk 2 t (cellsOf z), .ptr (siteOf o.dst) 0 0) else none
  | .box t x => bif allCells (cellsOf (st.get x)) && !AV.namesAll (siteOf o.dst) (cellsOf (st.get x)) then some (boxBlk 2 t (cellsOf (st.get x)), .ptr (siteOf o.dst) 0 0) else none
  | .buildSlice t len parts => (evBuildSlice E.P t len (parts.toList.map fun (i, x) => (i, st.get x))).bind fun b => bif AV.namesAll (siteOf o.dst) b.flat then none else some (b, .sl (siteOf o.dst))
  | .makeSlice t l c => match E.P.underlying t, st.get l with
    | some (.slice e), .int .i64 n => (tyOf E.P e).bind fun ty => (zeroOf E.P e).bind fun z => (ty.dec (cellsOf z)).bind fun x => (sizeT E.P e).bind fun sz =>
        bif Nat.beq sz ty.w && (bytesOk E.P e && sameOp l c) then
        bif decide (0 ≤ n) && decide (n ≤ (big : Int)) then some (.rows 2 e ty (List.replicate n.toNat x), .sl (siteOf o.dst)) else none
        else none
    | _, _ => none
  | _ => none
  else none

/-- What comes back from a call, with the blocks that it is laid in. -/
def impC (n : Nat) (d : D) : Option (List (Nat × Blk) × AV × Nat) := match d with
  | .sl e t l => some ([(n, .rows 2 e t l)], .sl n, n + 1)
  | d => (scalarAV d).map fun v => ([], v, n)

def impCs (n : Nat) : List D → Option (List (Nat × Blk) × List AV × Nat)
  | [] => some ([], [], n)
  | d :: r => (impC n d).bind fun p => (impCs p.2.2 r).map fun q => (p.1 ++ q.1, p.2.1 :: q.2.1, q.2.2)

def imp1 (avs : List AV) (n : Nat) (d : D) : Option (List (Nat × Blk) × AV × Nat) := match d with
  | .agg l => (impCs n l).map fun q => (q.1, .agg q.2.1, q.2.2)
  | .ptr e l => (impCs n l).map fun q => (q.1 ++ [(q.2.2, boxBlk 2 e q.2.1)], .ptr q.2.2 0 0, q.2.2 + 1)
  | .same j => (avs[j]?).map fun v => ([], v, n)
  | d => impC n d

def impRs (avs : List AV) (n : Nat) : List D → Option (List (Nat × Blk) × List AV × Nat)
  | [] => some ([], [], n)
  | d :: r => (imp1 avs n d).bind fun p => (impRs avs p.2.2 r).map fun q => (p.1 ++ q.1, p.2.1 :: q.2.1, q.2.2)

def postQ (avs : List AV) (n : Nat) (r : Res) : Option (List (Nat × Blk) × AV) :=
  (impRs avs n r.rs).bind fun q => bif Nat.ble q.2.2 (n + 64) then some (q.1, tupOf q.2.1) else none

/-- A call in such a region. -/
def prepQ (E : Env α) (dst : Option Tmp) (f : AV) (args : List AV) (h : Heap) : Option (FuncId × List D × List AV × List Nat) :=
  match f with
  | .fn g caps => (lentIds (E.M g) (args ++ caps)).bind fun ids =>
      bif nodupN ids && Nat.ble E.low (siteOf dst) then (argsD ids h (E.M g) (args ++ caps)).map fun ds => (g, ds, args ++ caps, ids) else none
  | _ => none

def evCallQ (E : Env α) (ns : List Nat) (dst : Option Tmp) (f : AV) (args : List AV) (st : St) (k : St → Option α) : Option α :=
  (prepQ E dst f args st.heap).bind fun p => E.C p.1 p.2.1 fun r => (back st.heap p.2.2.2 r.outs).bind fun h => (postQ p.2.2.1 (siteOf dst) r).bind fun q => bif okVal ns q.2 && okBlks ns q.1 then k (mkSt ⟨st.slots, h⟩ dst q.1 q.2) else none

/-- An operation in such a region; 'ns': sites that its value must not name. -/
def evOpQ (E : Env α) (ns : List Nat) (o : Oper) (st : St) (k : St → Option α) : Option α :=
  bif isMake o.op then (makeQ E o st).bind fun q => bif okVal ns q.2 && okBlks ns [(siteOf o.dst, q.1)] then k (mkSt st o.dst [(siteOf o.dst, q.1)] q.2) else none
  else bif isVal o.op then evOp E o st fun s => bif okVal ns (valOf o.dst s) then k s else none
  else bif isCallV o.op then (match o.op with
    | .call c => match c.callee with
      | .value f => evCallQ E ns o.dst (st.get f) (c.args.toList.map st.get) st k
      | _ => none
    | _ => none)
  else match o.op with
  | .store _ _ x => bif okVal ns (st.get x) then evOp E o st k else none
  | _ => match ns with
    | [] => evOp E o st k
    | _ :: _ => none

/-- Does an operation go, by its guard? -/
def goesQ (ops : Array Oper) (o : Oper) (st : St) : Option Bool :=
  match o.guard with
  | none => some true
  | some (j, want) => match yields ops j st with
    | some (_, b) => some (bif want then b else !b)
    | none => bif voided ops j st then some false else none

def evOpG (E : Env α) (ops : Array Oper) (ns : List Nat) (o : Oper) (st : St) (k : St → Option α) : Option α :=
  (goesQ ops o st).bind fun g => bif g then evOpQ E ns o st k else k (st.put o.dst (.tup []))

/-- The same, and what the guard told is known behind it. -/
def evOpL (E : Env α) (ops : Array Oper) (ns : List Nat) (o : Oper) (st : St) (k : St → Option α) : Option α :=
  match o.guard with
  | none => evOpQ E ns o st k
  | some (j, want) => match yields ops j st with
    | some (d, b) =>
      bif b then
        (bif want then evOpQ E ns o (st.put (some d) (.bool true)) k else k ((st.put (some d) (.bool true)).put o.dst (.tup [])))
      else
        (bif want then k ((st.put (some d) (.bool false)).put o.dst (.tup [])) else evOpQ E ns o (st.put (some d) (.bool false)) k)
    | none => bif voided ops j st then k (st.put o.dst (.tup [])) else none

def othersQ (st : St) (id : Nat) : List Nat → Bool
  | [] => true
  | s :: r => (match st.slots.getD s .undef with
    | .ptr j _ _ => !Nat.beq j id
    | _ => false) && othersQ st id r

/-- None of some slots names one of some blocks. -/
def freeOf (st : St) : List Nat → List Nat → Bool
  | [], _ => true
  | id :: r, L => freeOf1 st id L && freeOf st r L
where
  freeOf1 (st : St) (id : Nat) : List Nat → Bool
    | [] => true
    | s :: r => !(st.slots.getD s .undef).names id && freeOf1 st id r

/-- The block that an append lays, or lays anew. -/
def appId (dst : Option Tmp) : AV → Nat
  | .sl id => id
  | .sub id _ _ => id
  | _ => siteOf dst

/-- A write is not at a place that may be read in either order with it; nor does a call lend such a place. -/
def chkL (E : Env α) (L : List Nat) (o : Oper) (st : St) : Bool := match o.op with
  | .store _ a _ => match L with
    | [] => true
    | s :: r => match st.get a with
      | .ptr id _ _ => othersQ st id (s :: r)
      | _ => false
  | .call c => match c.callee with
    | .value f => match st.get f with
      | .fn g caps => match lentIds (E.M g) (c.args.toList.map st.get ++ caps) with
        | some ids => freeOf st ids L
        | none => true
      | _ => true
    | .builtin b => match b with
      | .append => match c.args.toList with
        | s :: _ => freeOf.freeOf1 st (appId o.dst (st.get s)) L
        | [] => true
      | _ => true
    | _ => true
  | _ => true

def chkQ (E : Env α) (ops : Array Oper) (i : Nat) (o : Oper) (st : St) : Bool := chkL E (chkSlots ops i) o st

def evIdx (E : Env α) (ops : Array Oper) : List Nat → St → (St → Option α) → Option α
  | [], st, k => k st
  | i :: r, st, k => match ops[i]? with
    | some o => bif chkQ E ops i o st then evOpL E ops (freeSites ops i) o st fun st => evIdx E ops r st k else none
    | none => none

def evDraw (E : Env α) (ops : Array Oper) (st : St) (k : St → Option α) : Option α :=
  bif E.P.follows .mixedOrders && ordFrom ops (orderQ ops ops.size []) [] [] then evIdx E ops (orderQ ops ops.size []) (dropAll (makerSites ops.toList) st) k else none

def unroll (round : St → (Out → Option α) → Option α) : Nat → St → (Out → Option α) → Option α
  | 0, _, _ => none
  | n + 1, st, k => round st fun out => match out with
    | .normal st' => unroll round n st' k
    | .exit j st' => k (.exit j st')
    | .ret r => k (.ret r)

/-- A loop's number: its first region's. -/
def firstRegion : Code → Option Nat
  | .region id _ _ => some id
  | .seq a b => match firstRegion a with
    | some i => some i
    | none => firstRegion b
  | .block _ b => firstRegion b
  | .loop b => firstRegion b
  | .cond _ a b => match firstRegion a with
    | some i => some i
    | none => firstRegion b
  | _ => none

/-- What is known at a region is cut down to its template. -/
def normSt (low : Nat) (t : Option Tpl) (st : St) (k : St → Option α) : Option α := match t with
  | none => k st
  | some t => (t.take low st).bind fun p => (t.build p).bind k

noncomputable def evRegion (E : Env α) (ops : Array Oper) (draw : Bool) (st : St) (k : St → Option α) : Option α :=
  bif draw then evDraw E ops st k else evOps E ops ops.toList st k

def jtOf : List (Nat × Tpl) → Nat → Option Tpl
  | [], _ => none
  | (j, t) :: r, id => bif Nat.beq j id then some t else jtOf r id

/-- A loop by its template; or by another one, if what is known does not fit. -/
def runLp (E : Env α) (b : Code) (L : Lp α) (st : St) (k : Out → Option α) : Option α := match L.tpl.take E.low st with
  | some p => L.run p (fun j q => (L.tpl.build q).bind fun st' => k (.exit j st')) fun r => k (.ret r)
  | none => ((firstRegion b).bind fun i => E.lp (i + 100000)).bind fun L => (L.tpl.take E.low st).bind fun p => L.run p (fun j q => (L.tpl.build q).bind fun st' => k (.exit j st')) fun r => k (.ret r)

noncomputable def ev (E : Env α) : Code → St → (Out → Option α) → Option α
  | .skip, st, k => k (.normal st)
  | .label _, st, k => k (.normal st)
  | .ret, st, k => E.res st fun r => k (.ret r)
  | .exit id, st, k => k (.exit id st)
  | .region id ops draw, st, k => normSt E.low (E.jt id) st fun st => evRegion E ops draw st fun st => k (.normal st)
  | .seq a b, st, k => ev E a st fun out => match out with
    | .normal st => ev E b st k
    | .exit j st => k (.exit j st)
    | .ret r => k (.ret r)
  | .cond c a b, st, k => match st.get c with
    | .bool t => bif t then ev E a st k else ev E b st k
    | _ => none
  | .block id b, st, k => ev E b st fun out => match out with
    | .normal st => k (.normal st)
    | .exit j st => bif Nat.beq j id then k (.normal st) else k (.exit j st)
    | .ret r => k (.ret r)
  | .loop b, st, k => match (firstRegion b).bind E.lp with
    | none => unroll (fun st k => ev E b st k) 40 st k
    | some L => bif L.tpl.peel then ev E b st fun out => match out with
        | .normal st' => runLp E b L st' k
        | .exit j st' => k (.exit j st')
        | .ret r => k (.ret r)
      else runLp E b L st k
  | _, _, _ => none

/-- A round of a loop that is told by its template. -/
def roundK (low : Nat) (t : Tpl) (again : List P1 → Option α) (brk : Nat → List P1 → Option α) (ret : Res → Option α) : Out → Option α
  | .normal st => (t.take low st).bind again
  | .exit j st => (t.take low st).bind (brk j)
  | .ret r => ret r

/-! ### a function -/
/-- A parameter's number. -/
def isParam (np id : Nat) : Bool := Nat.beq (id / 64 * 64) id && Nat.blt (id / 64) np

/-- A block that a call may hand back: one of its own, or one that was lent and is given back so. -/
def okRes (m id : Nat) (gone used : List Nat) : Bool := (Nat.beq m 2 || (!Nat.beq m 0 && memN id gone)) && !memN id used

/-- A result's data: blocks of the call's own, each once; or a slice that came in. -/
def resCell (h : Heap) (np : Nat) (gone used : List Nat) (v : AV) : Option (D × List Nat) :=
  match v with
  | .sl id => (look h id).bind fun b => bif Nat.beq b.mode 0 then (bif isParam np id then some (.same (id / 64), used) else none) else match b with
    | .rows m e t l => bif okRes m id gone used then some (.sl e t l, id :: used) else none
    | _ => none
  | .sub id 0 n => (look h id).bind fun b => match b with
    | .rows m e t l => bif okRes m id gone used then some (.sl e t (l.take n), id :: used) else none
    | _ => none
  | v => (scalarD v).map fun d => (d, used)

def resCells (h : Heap) (np : Nat) (gone : List Nat) : List Nat → List AV → Option (List D × List Nat)
  | used, [] => some ([], used)
  | used, v :: vs => (resCell h np gone used v).bind fun (d, used) => (resCells h np gone used vs).map fun (ds, used) => (d :: ds, used)

def resD (h : Heap) (np : Nat) (gone used : List Nat) (v : AV) : Option (D × List Nat) :=
  match v with
  | .agg l => (resCells h np gone used l).map fun (ds, used) => (.agg ds, used)
  | .ptr id 0 0 => (look h id).bind fun b => bif Nat.beq b.mode 2 then (resCells h np gone used b.flat).bind fun (ds, used) => match ds with
      | [] => none
      | d :: ds => bif memN id used then none else some (.ptr b.e (d :: ds), id :: used)
    else none
  | v => resCell h np gone used v

def readRes (P : Program) (np : Nat) (gone : List Nat) : List ResultVar → List Nat → St → (List D → Option α) → Option α
  | [], _, _, k => k []
  | .tmp t :: r, used, st, k => (resD st.heap np gone used (st.slots.getD t .undef)).bind fun (d, used) => readRes P np gone r used st fun ds => k (d :: ds)
  | .cell a t :: r, used, st, k => match st.slots.getD a .undef with
    | .ptr id i c => (look st.heap id).bind fun b => (sizeT P t).bind fun n => (aggT P t).bind fun ag => b.read i c n fun cs =>
      bif ag then (resD st.heap np gone used (.agg cs)).bind fun (d, used) => readRes P np gone r used st fun ds => k (d :: ds)
      else oneOf cs fun x => (resD st.heap np gone used x).bind fun (d, used) => readRes P np gone r used st fun ds => k (d :: ds)
    | _ => none

/-- It is the result, or its first part is. -/
def isRes (sl : List AV) (id : Nat) : ResultVar → Bool
  | .tmp t => match sl.getD t .undef with
    | .sl j => Nat.beq j id
    | .sub j 0 _ => Nat.beq j id
    | _ => false
  | _ => false

/-- Slices that were lent, and are handed back as results. -/
def goneOf (sl : List AV) (rs : List ResultVar) : List (Bool × Nat × Blk) → List Nat
  | [] => []
  | (s, id, _) :: r => bif s && rs.any (isRes sl id) then id :: goneOf sl rs r else goneOf sl rs r

/-- What is told of them. -/
def markG (gone : List Nat) : List (Bool × Nat × Blk) → List D → List D
  | (s, id, _) :: r, o :: os => (bif s && memN id gone then .nilsl else o) :: markG gone r os
  | _, os => os

def dropN (gone : List Nat) : List Nat → List Nat
  | [] => []
  | x :: r => bif memN x gone then dropN gone r else x :: dropN gone r

/-- The cells of a block that was lent, as they are now. -/
def outCells : List AV → List AV → Option (List D)
  | [], [] => some []
  | v :: vs, u :: us => match v, u with
    | .sl i, .sl j => bif Nat.beq i j then (outCells vs us).map (.keep :: ·) else none
    | _, u => (scalarD u).bind fun d => (outCells vs us).map (d :: ·)
  | _, _ => none

/-- A struct that was lent. -/
def outD (h : Heap) (id : Nat) (b0 : Blk) : Option D :=
  (look h id).bind fun b => bif Nat.beq b.e b0.e then match b0, b with
    | .rows _ _ _ _, .rows _ _ t l => (scalarsD (l.flatMap t.enc)).map (.ptr b0.e)
    | .mix _ _ l0, .mix _ _ l => (outCells l0 l).map (.ptr b0.e)
    | _, _ => none
  else none

/-- A slice that was lent. -/
def outSl (h : Heap) (id : Nat) (b0 : Blk) : Option D :=
  (look h id).bind fun b => match b0, b with
    | .rows _ e t _, .rows _ e' t' l => if h : t' = t then bif Nat.beq e' e then some (.sl e t (h ▸ l)) else none else none
    | _, _ => none

/-- What was lent at the entry: slices (true) and structs (false), with their blocks. -/
def outsD (h : Heap) : List (Bool × Nat × Blk) → Option (List D)
  | [] => some []
  | (s, id, b) :: r => (bif s then outSl h id b else outD h id b).bind fun d => (outsD h r).map (d :: ·)

structure Ent where
  heap : Heap
  lent : List (Bool × Nat × Blk)

/-- A cell of an argument: a scalar, or a slice to read. -/
def entCell (n : Nat) : D → Option (AV × Heap × Nat)
  | .sl e t l => some (.sl n, [(n, .rows 0 e t l)], n + 1)
  | d => (scalarAV d).map fun v => (v, [], n)

def entCells (n : Nat) : List D → Option (List AV × Heap × Nat)
  | [] => some ([], [], n)
  | d :: r => (entCell n d).bind fun (v, h, n) => (entCells n r).map fun (vs, h', n) => (v :: vs, h ++ h', n)

/-- A captured value: a scalar, a slice, or a variable's place. -/
def entCap (n : Nat) : D → Option (AV × Heap × Nat)
  | .ptr e l => (entCells (n + 1) l).map fun (vs, h, m) => (.ptr n 0 0, (n, boxBlk 0 e vs) :: h, m)
  | d => entCell n d

def entCaps (n : Nat) : List D → Option (List AV × Heap × Nat)
  | [] => some ([], [], n)
  | d :: r => (entCap n d).bind fun (v, h, n) => (entCaps n r).map fun (vs, h', n) => (v :: vs, h ++ h', n)

/-- An argument: its value, its blocks, the next number. -/
def entry1 (n : Nat) : D → Option (AV × Ent × Nat)
  | .agg l => (entCells (n + 1) l).map fun (vs, h, m) => (.agg vs, ⟨h, []⟩, m)
  | .slm e l => (entCells (n + 1) l).map fun (vs, h, m) => (.sl n, ⟨(n, .mix 0 e vs) :: h, []⟩, m)
  | .msl e t l => some (.sl n, ⟨[(n, .rows 1 e t l)], [(true, n, .rows 1 e t l)]⟩, n + 1)
  | .mptr e l => (entCells (n + 1) l).map fun (vs, h, m) => (.ptr n 0 0, ⟨(n, boxBlk 1 e vs) :: h, [(false, n, boxBlk 1 e vs)]⟩, m)
  | .fn f l => (entCaps (n + 1) l).map fun (vs, h, m) => (.fn f vs, ⟨h, []⟩, m)
  | d => (entCap n d).map fun (v, h, m) => (v, ⟨h, []⟩, m)

def entry (n : Nat) : List D → Option (List AV × Ent)
  | [] => some ([], ⟨[], []⟩)
  | d :: r => (entry1 n d).bind fun (v, e, m) => bif Nat.ble m (n + 64) then (entry (n + 64) r).map fun (vs, e') => (v :: vs, ⟨e.heap ++ e'.heap, e.lent ++ e'.lent⟩) else none

def resOf (P : Program) (fn : Func) (np : Nat) (lent : List (Bool × Nat × Blk)) (st : St) (k : Res → Option α) : Option α :=
  (outsD st.heap lent).bind fun os => readRes P np (goneOf st.slots fn.results.toList lent) fn.results.toList (dropN (goneOf st.slots fn.results.toList lent) (lent.map (·.2.1))) st fun rs => k ⟨rs, markG (goneOf st.slots fn.results.toList lent) lent os⟩

/-- What a function's body is read in. -/
structure Ctx (α : Type) where
  C : FuncId → List D → (Res → Option α) → Option α
  M : FuncId → List Nat
  eqs : TypeId → Nat → Bool
  lp : Nat → Option (Lp α)
  jt : Nat → Option Tpl
  two : Bool := false

def Ctx.env (X : Ctx α) (P : Program) (fn : Func) (np : Nat) (lent : List (Bool × Nat × Blk)) : Env α :=
  { P, C := X.C, M := X.M, eqs := X.eqs, lp := X.lp, jt := X.jt, low := np * 64, res := resOf P fn np lent, two := X.two }

noncomputable def evFn (P : Program) (X : Ctx α) (f : Func) (args : List D) (k : Res → Option α) : Option α :=
  match f.body with
  | some c => (entry 0 args).bind fun (vs, e) =>
    ev (X.env P f vs.length e.lent) c { slots := vs ++ List.replicate (f.ntmps - vs.length) .undef, heap := e.heap } fun out => match out with
      | .normal st => resOf P f vs.length e.lent st k
      | .ret r => k r
      | .exit _ _ => none
  | none => none

end Go.Ev
