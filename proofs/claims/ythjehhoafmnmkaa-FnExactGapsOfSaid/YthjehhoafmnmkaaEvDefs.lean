/- The evaluator of the framework 'Ev': a pure, memory-free reading of the model's code, in the style of continuations. Definitions alone. -/
import GoSem.Step
import GoSem.ClaimKeys
import Derived.KernelRfl
namespace Go.Ev
inductive Ty where
 | int (k : IntKind) | bool | str | pt | tr | qd | hx
 deriving DecidableEq, Inhabited
@[reducible] def Ty.den : Ty → Type
 | .int _ => Int
 | .bool => Bool
 | .str => ByteArray
 | .pt => Int × Int
 | .tr => Int × Int × Int
 | .qd => Int × Int × Int × Int
 | .hx => Int × Int × Int × Int × Int × Int
def Ty.w : Ty → Nat
 | .pt => 2
 | .tr => 3
 | .qd => 4
 | .hx => 6
 | _ => 1
inductive AV where
 | undef
 | int (k : IntKind) (n : Int)
 | bool (b : Bool)
 | str (s : ByteArray)
 | nilptr
 | ptr (id row col : Nat)
 | nilsl
 | emp
 | sl (id : Nat)
 | sub (id lo n : Nat)
 | agg (l : List AV)
 | tup (l : List AV)
 | fn (f : FuncId) (caps : List AV)
 | map (id : Nat)
 deriving Inhabited
def Ty.enc : (t : Ty) → t.den → List AV
 | .int k, n => [.int k n]
 | .bool, b => [.bool b]
 | .str, s => [.str s]
 | .pt, p => [.int .i64 p.1, .int .i64 p.2]
 | .tr, p => [.int .i64 p.1, .int .i64 p.2.1, .int .i64 p.2.2]
 | .qd, p => [.int .i64 p.1, .int .i64 p.2.1, .int .i64 p.2.2.1, .int .i64 p.2.2.2]
 | .hx, p => [.int .i64 p.1, .int .i64 p.2.1, .int .i64 p.2.2.1, .int .i64 p.2.2.2.1, .int .i64 p.2.2.2.2.1, .int .i64 p.2.2.2.2.2]
def Ty.dec : (t : Ty) → List AV → Option t.den
 | .int k, [.int k' n] => if k = k' then some n else none
 | .bool, [.bool b] => some b
 | .str, [.str s] => some s
 | .pt, [.int .i64 x, .int .i64 y] => some (x, y)
 | .tr, [.int .i64 x, .int .i64 y, .int .i64 z] => some (x, y, z)
 | .qd, [.int .i64 x, .int .i64 y, .int .i64 z, .int .i64 u] => some (x, y, z, u)
 | .hx, [.int .i64 x, .int .i64 y, .int .i64 z, .int .i64 u, .int .i64 v, .int .i64 w] => some (x, y, z, u, v, w)
 | _, _ => none
inductive Blk where
 | rows (mode : Nat) (e : TypeId) (t : Ty) (l : List t.den)
 | mix (mode : Nat) (e : TypeId) (l : List AV)
 | map (e : TypeId) (kt vt : Ty) (ks : List kt.den) (vs : List vt.den)
 | bld (e eb : TypeId) (s : ByteArray)
def Blk.mode : Blk → Nat
 | .rows m _ _ _ => m
 | .mix m _ _ => m
 | .map _ _ _ _ _ => 0
 | .bld _ _ _ => 0
def Blk.e : Blk → TypeId
 | .rows _ e _ _ => e
 | .mix _ e _ => e
 | .map e _ _ _ _ => e
 | .bld e _ _ => e
def Blk.w : Blk → Nat
 | .rows _ _ t _ => t.w
 | .mix _ _ _ => 1
 | .map _ _ _ _ _ => 1
 | .bld _ _ _ => 1
def Blk.n : Blk → Nat
 | .rows _ _ _ l => l.length
 | .mix _ _ l => l.length
 | .map _ _ _ _ _ => 0
 | .bld _ _ _ => 0
def Blk.flat : Blk → List AV
 | .rows _ _ t l => l.flatMap t.enc
 | .mix _ _ l => l
 | .map _ _ _ _ _ => []
 | .bld _ _ _ => []
def Blk.isMap : Blk → Bool
 | .map _ _ _ _ _ => true
 | .bld _ _ _ => true
 | _ => false
def Blk.isBld : Blk → Bool
 | .bld _ _ _ => true
 | _ => false
abbrev Heap := List (Nat × Blk)
structure St where
 slots : List AV
 heap : Heap
inductive D where
 | int (k : IntKind) (n : Int)
 | bool (b : Bool)
 | str (s : ByteArray)
 | agg (l : List D)
 | nilsl
 | sl (e : TypeId) (t : Ty) (l : List t.den)
 | slm (e : TypeId) (l : List D)
 | msl (e : TypeId) (t : Ty) (l : List t.den)
 | nilptr
 | ptr (e : TypeId) (l : List D)
 | mptr (e : TypeId) (l : List D)
 | fn (f : FuncId) (caps : List D)
 | same (i : Nat)
 | keep
 deriving Inhabited
structure Res where
 rs : List D
 outs : List D
inductive Out where
 | normal (st : St)
 | exit (id : Nat) (st : St)
 | ret (r : Res)
def ny (v : Value) : AV :=
 match v with
 | .int k n => .int k n
 | .bool b => .bool b
 | .string s => .str s
 | .pointer a => match a with
   | none => .nilptr
   | some _ => .undef
 | .slice a l c => match a with
   | none => bif Nat.beq l 0 && Nat.beq c 0 then .nilsl else .undef
   | some _ => .undef
 | .func fn first caps => match fn with
   | .func f => match first.toList, caps.toList with
     | [], [] => .fn f []
     | _, _ => .undef
   | _ => .undef
 | _ => .undef
def mW (v : Value) : AV :=
 match v with
 | .agg cs => .agg (cs.toList.map ny)
 | v => ny v
def St.get (st : St) : Operand → AV
 | .tmp t => st.slots.getD t .undef
 | .const v => mW v
 | .func f => .fn f []
 | .global _ => .undef
def St.put (st : St) (dst : Option Tmp) (v : AV) : St :=
 match dst with
 | some d => { st with slots := st.slots.set d v }
 | none => st
def look : Heap → Nat → Option Blk
 | [], _ => none
 | (j, b) :: r, id => bif Nat.beq j id then some b else look r id
def upd : Heap → Nat → Blk → Heap
 | [], id, b => [(id, b)]
 | (j, c) :: r, id, b => bif Nat.beq j id then (id, b) :: r else (j, c) :: upd r id b
def del : Heap → Nat → Heap
 | [], _ => []
 | (j, c) :: r, id => bif Nat.beq j id then del r id else (j, c) :: del r id
mutual
def AV.names (id : Nat) : AV → Bool
 | .ptr j _ _ => Nat.beq j id
 | .sl j => Nat.beq j id
 | .sub j _ _ => Nat.beq j id
 | .agg l => AV.namesAll id l
 | .tup l => AV.namesAll id l
 | .fn _ l => AV.namesAll id l
 | .map j => Nat.beq j id
 | _ => false
def AV.namesAll (id : Nat) : List AV → Bool
 | [] => false
 | x :: r => x.names id || AV.namesAll id r
end
def iW (id : Nat) (v : AV) : AV := bif v.names id then .undef else v
def mZ (id : Nat) : Blk → Blk
 | .mix m e l => .mix m e (l.map (iW id))
 | b => b
def pz (id : Nat) : Heap → Heap
 | [] => []
 | (j, b) :: r => (j, mZ id b) :: pz id r
def St.kill (st : St) (id : Nat) : St :=
 { slots := st.slots.map (iW id), heap := pz id (del st.heap id) }
def St.fresh (st : St) (id : Nat) (b : Blk) : St :=
 { slots := st.slots.map (iW id), heap := pz id (del st.heap id) ++ [(id, b)] }
def xy : AV → Bool
 | .undef => false
 | .agg _ => false
 | .tup _ => false
 | _ => true
def gZ : List AV → Bool
 | [] => true
 | x :: r => xy x && gZ r
def QX (k : IntKind) : List AV → Option (List Int)
 | [] => some []
 | .int k' n :: r => if k = k' then (QX k r).map (n :: ·) else none
 | _ :: _ => none
def kZ (m : Nat) (e : TypeId) (l : List AV) : Blk :=
 match l with
 | .int k n :: r => match QX k r with
   | some ns => .rows m e (.int k) (n :: ns)
   | none => .mix m e l
 | _ => .mix m e l
def cellsOf : AV → List AV
 | .agg l => l
 | v => [v]
def aggT (P : Program) (t : TypeId) : Option Bool :=
 match P.underlying t with
 | some (.struct _) => some true
 | some (.array _ _) => some true
 | some _ => some false
 | none => none
def nY (P : Program) (t : TypeId) : Option AV := (P.info? t).bind fun i => i.zero.map mW
def dX (P : Program) (t : TypeId) : Option Nat := (P.info? t).map (·.size)
def tyOf (P : Program) (t : TypeId) : Option Ty :=
 match nY P t with
 | some (.int k _) => some (.int k)
 | some (.bool _) => some .bool
 | some (.str _) => some .str
 | some (.agg [.int .i64 _, .int .i64 _]) => some .pt
 | some (.agg [.int .i64 _, .int .i64 _, .int .i64 _]) => some .tr
 | some (.agg [.int .i64 _, .int .i64 _, .int .i64 _, .int .i64 _]) => some .qd
 | some (.agg [.int .i64 _, .int .i64 _, .int .i64 _, .int .i64 _, .int .i64 _, .int .i64 _]) => some .hx
 | _ => none
def Hw (t : Ty) : Nat → List AV → Option (List t.den)
 | 0, [] => some []
 | 0, _ :: _ => none
 | n + 1, l => (t.dec (l.take t.w)).bind fun x => (Hw t n (l.drop t.w)).map (x :: ·)
variable {α : Type}
def Dk {β : Type} (l : List β) (i : Nat) : (n : Nat) → (List β → Option α) → Option α
 | 0, k => k []
 | n + 1, k => (l[i]?).bind fun x => Dk l (i + 1) n fun r => k (x :: r)
def Blk.read (b : Blk) (row col n : Nat) (k : List AV → Option α) : Option α :=
 match b with
 | .map _ _ _ _ _ => none
 | .bld _ _ _ => none
 | .mix _ _ l => bif Nat.beq col 0 && Nat.ble (row + n) l.length then k ((l.drop row).take n) else none
 | .rows _ _ t l =>
   bif Nat.beq t.w 1 then bif Nat.beq col 0 then Dk l row n fun xs => k (xs.flatMap t.enc) else none
   else bif Nat.ble (col + n) t.w then (l[row]?).bind fun x => k (((t.enc x).drop col).take n)
   else none
def lq {β : Type} (l : List β) (i : Nat) : List β → List β
 | [] => l
 | v :: r => lq (l.set i v) (i + 1) r
def tJ (t : Ty) (l : List t.den) (i : Nat) : List AV → (List t.den → Option α) → Option α
 | [], k => k l
 | v :: r, k => (l[i]?).bind fun _ => (t.dec [v]).bind fun x => tJ t (l.set i x) (i + 1) r k
def ae4 (t : Ty) (x : t.den) (vs : List AV) (i : Nat) : Option t.den := t.dec (lq (t.enc x) i vs)
def VJ (t : Ty) (x : t.den) (vs : List AV) : Nat → Bool
 | 0 => true
 | n + 1 => (ae4 t x vs n).isSome && VJ t x vs n
def selD (t : Ty) (x : t.den) (vs : List AV) (c : Nat) : Nat → t.den
 | 0 => x
 | n + 1 => bif Nat.beq c n then (ae4 t x vs n).getD x else selD t x vs c n
def aaU (t : Ty) (x : t.den) (col : Nat) (vs : List AV) : Option t.den := bif VJ t x vs (t.w + 1 - vs.length) then some (selD t x vs col (t.w + 1 - vs.length)) else none
def Ew : List AV → Bool
 | [.nilptr, .nilsl] => true
 | _ => false
def Blk.write (b : Blk) (row col : Nat) (vs : List AV) (k : Blk → Option α) : Option α :=
 bif (Nat.beq b.mode 0 && !b.isBld) || !gZ vs then none else
 match b with
 | .map _ _ _ _ _ => none
 | .bld e eb _ => bif Nat.beq row 0 && (Nat.beq col 0 && Ew vs) then k (.bld e eb ByteArray.empty) else none
 | .mix m e l => bif Nat.beq col 0 && Nat.ble (row + vs.length) l.length then k (.mix m e (lq l row vs)) else none
 | .rows m e t l =>
   bif Nat.beq t.w 1 then bif Nat.beq col 0 then tJ t l row vs fun l' => k (.rows m e t l') else none
   else bif Nat.ble (col + vs.length) t.w then (l[row]?).bind fun x => (aaU t x col vs).bind fun y => k (.rows m e t (l.set row y))
   else none
def nZ : List AV → List AV → Option Bool
 | [], [] => some true
 | [.int k x], [.int k' y] => if k = k' then some (decide (x = y)) else none
 | .int k x :: r, .int k' y :: s => if k = k' then (nZ r s).map fun b => (decide (x = y) && b) else none
 | _, _ => none
def big : Nat := 1099511627776
def SQ (P : Program) (eqs : TypeId → Nat → Bool) (t : TypeId) (op : BinOp) (x y : AV) (k : AV → Option α) : Option α :=
 match op, x, y with
 | .shl, .int ka a, .int _ b => bif decide (b < 0) then none else k (.int ka (ka.wrap (a * 2 ^ (min b.toNat ka.bits))))
 | .shr, .int ka a, .int _ b => bif decide (b < 0) then none else k (.int ka (a.fdiv (2 ^ (min b.toNat ka.bits))))
 | op, .int ka a, .int kb b =>
   if ka ≠ kb then none else
   match op with
   | .add => k (.int ka (ka.wrap (a + b)))
   | .sub => k (.int ka (ka.wrap (a - b)))
   | .mul => k (.int ka (ka.wrap (a * b)))
   | .quo => bif decide (b = 0) then none else k (.int ka (ka.wrap (a.tdiv b)))
   | .rem => bif decide (b = 0) then none else k (.int ka (a.tmod b))
   | .and => k (.int ka (ka.wrap (BitVec.ofInt ka.bits a &&& BitVec.ofInt ka.bits b).toNat))
   | .eql => k (.bool (decide (a = b)))
   | .neq => k (.bool (!decide (a = b)))
   | .lss => k (.bool (decide (a < b)))
   | .leq => k (.bool (decide (a ≤ b)))
   | .gtr => k (.bool (decide (b < a)))
   | .geq => k (.bool (decide (b ≤ a)))
   | _ => none
 | .eql, .bool a, .bool b => match P.underlying t with
   | some .bool => k (.bool (a == b))
   | _ => none
 | .neq, .bool a, .bool b => match P.underlying t with
   | some .bool => k (.bool (!(a == b)))
   | _ => none
 | .eql, .str a, .str b => k (.bool (decide (a = b)))
 | .neq, .str a, .str b => k (.bool (!decide (a = b)))
 | .add, .str a, .str b => bif decide (a.size + b.size ≤ big) then k (.str (a ++ b)) else none
 | .eql, .agg a, .agg b => bif eqs t a.length then (nZ a b).bind fun r => k (.bool r) else none
 | .neq, .agg a, .agg b => bif eqs t a.length then (nZ a b).bind fun r => k (.bool (!r)) else none
 | _, _, _ => none
def evUn (op : UnOp) (x : AV) (k : AV → Option α) : Option α :=
 match op, x with
 | .neg, .int ka a => k (.int ka (ka.wrap (0 - a)))
 | .not, .bool b => k (.bool (!b))
 | _, _ => none
def jq (r i s : Nat) : Nat := bif Nat.beq r 0 then (bif Nat.beq s 1 then i else i * s) else r + i * s
def fQ (dst : Option Tmp) : Nat := (dst.getD 0) * 64
def Bq : AV → Option D
 | .int k n => some (.int k n)
 | .bool b => some (.bool b)
 | .str s => some (.str s)
 | .nilsl => some .nilsl
 | .nilptr => some .nilptr
 | _ => none
def mQ : List AV → Option (List D)
 | [] => some []
 | x :: r => (Bq x).bind fun d => (mQ r).map (d :: ·)
def allD (f : AV → Option D) : List AV → Option (List D)
 | [] => some []
 | x :: r => (f x).bind fun d => (allD f r).map (d :: ·)
def memN (i : Nat) : List Nat → Bool
 | [] => false
 | x :: r => Nat.beq x i || memN i r
def toD (ban : List Nat) (h : Heap) : Nat → AV → Option D
 | 0, v => Bq v
 | d + 1, v => match v with
   | .agg l => (mQ l).map .agg
   | .fn f l => (allD (toD ban h d) l).map (.fn f)
   | .sl id => bif memN id ban then none else (look h id).bind fun b => match b with
     | .rows _ e t l => some (.sl e t l)
     | .mix _ e l => (allD (toD ban h d) l).map (.slm e)
     | .map _ _ _ _ _ => none
     | .bld _ _ _ => none
   | .sub id lo n => bif memN id ban then none else (look h id).bind fun b => match b with
     | .rows _ e t l => some (.sl e t ((l.drop lo).take n))
     | _ => none
   | .ptr id 0 0 => bif memN id ban then none else (look h id).bind fun b => match b with
     | .rows _ e t l => (mQ (l.flatMap t.enc)).map (.ptr e)
     | .mix _ e l => (allD (toD ban h d) l).map (.ptr e)
     | .map _ _ _ _ _ => none
     | .bld _ _ _ => none
   | v => Bq v
def iQ : List Nat → List AV → Option (List Nat)
 | _, [] => some []
 | [], _ :: _ => some []
 | m :: ms, v :: vs => match m with
   | 1 => match v with
     | .sl id => (iQ ms vs).map (id :: ·)
     | .ptr id 0 0 => (iQ ms vs).map (id :: ·)
     | .nilsl => iQ ms vs
     | _ => none
   | _ => iQ ms vs
def JK : List Nat → Bool
 | [] => true
 | x :: r => !memN x r && JK r
def DJ (ban : List Nat) (h : Heap) : AV → Option D
 | .sl id => (look h id).bind fun b => match b with
   | .rows m e t l => bif Nat.beq m 0 then none else some (.msl e t l)
   | _ => none
 | .ptr id 0 0 => (look h id).bind fun b => match b with
   | .rows m e t l => bif Nat.beq m 0 then none else match l with
     | [] => none
     | _ :: _ => (mQ (l.flatMap t.enc)).map (.mptr e)
   | .map _ _ _ _ _ => none
   | .bld _ _ _ => none
   | .mix m e l => bif Nat.beq m 0 then none else match l with
     | [] => none
     | _ :: _ => (allD (toD ban h 3) l).map (.mptr e)
 | .nilsl => some .nilsl
 | _ => none
def oV (ban : List Nat) (h : Heap) : List Nat → List AV → Option (List D)
 | _, [] => some []
 | [], v :: vs => (toD ban h 4 v).bind fun d => (oV ban h [] vs).map (d :: ·)
 | m :: ms, v :: vs => match m with
   | 1 => (DJ ban h v).bind fun d => (oV ban h ms vs).map (d :: ·)
   | _ => (toD ban h 4 v).bind fun d => (oV ban h ms vs).map (d :: ·)
def lK : D → Option AV
 | .int k n => some (.int k n)
 | .bool b => some (.bool b)
 | .str s => some (.str s)
 | .nilsl => some .nilsl
 | .nilptr => some .nilptr
 | _ => none
structure Imp where
 st : St
 args : List AV
 acc : List AV
 n : Nat
def Imp.fresh (i : Imp) (b : Blk) : Imp := { st := i.st.fresh i.n b, args := i.args.map (iW i.n), acc := i.acc.map (iW i.n), n := i.n + 1 }
def EY (i : Imp) (d : D) (k : Imp → AV → Option α) : Option α :=
 match d with
 | .sl e t l => k (i.fresh (.rows 2 e t l)) (.sl i.n)
 | .same j => (i.args[j]?).bind fun x => match x with
   | .sl id => bif Nat.blt id i.n then k i (.sl id) else none
   | _ => none
 | d => (lK d).bind fun v => k i v
def zJ (i : Imp) : List D → (Imp → List AV → Option α) → Option α
 | [], k => k i []
 | d :: r, k => EY i d fun i v => zJ i r fun i vs => k i (v :: vs)
def imp (i : Imp) (d : D) (k : Imp → AV → Option α) : Option α :=
 match d with
 | .agg l => zJ i l fun i vs => k i (.agg vs)
 | .ptr e l => zJ i l fun i vs => k (i.fresh (kZ 2 e vs)) (.ptr i.n 0 0)
 | .same j => (i.args[j]?).bind fun v => k i v
 | d => EY i d k
def imps (i : Imp) : List D → (Imp → Option α) → Option α
 | [], k => k i
 | d :: r, k => imp i d fun i v => imps { i with acc := i.acc ++ [v] } r k
def lY : List AV → List D → Option (List AV)
 | [], [] => some []
 | v :: vs, d :: ds => match d with
   | .keep => (lY vs ds).map (v :: ·)
   | d => (lK d).bind fun x => (lY vs ds).map (x :: ·)
 | _, _ => none
def upd1 (b : Blk) (d : D) : Option Blk :=
 match b, d with
 | .rows m e t _, .sl _ t' l' => if h' : t' = t then some (.rows m e t (h' ▸ l')) else none
 | .rows m e t l, .ptr _ ds => (lY (l.flatMap t.enc) ds).bind fun vs => bif Nat.beq t.w 1 then (Hw t l.length vs).map fun l' => .rows m e t l' else none
 | .mix m e l, .ptr _ ds => (lY l ds).map fun vs => .mix m e vs
 | _, _ => none
def Kv (h : Heap) (id : Nat) (d : D) : Option Heap :=
 (look h id).bind fun b => (upd1 b d).map fun b' => upd h id b'
def back : Heap → List Nat → List D → Option Heap
 | h, [], [] => some h
 | h, id :: ids, d :: ds => (Kv h id d).bind fun h => back h ids ds
 | _, _, _ => none
def backG : Heap → List Nat → List D → Option Heap
 | h, [], [] => some h
 | h, id :: ids, d :: ds => match d with
   | .nilsl => (look h id).bind fun b => bif Nat.beq b.mode 2 then backG (del h id) ids ds else none
   | d => (Kv h id d).bind fun h => backG h ids ds
 | _, _, _ => none
inductive Sk where
 | any
 | lit (k : IntKind) (n : Int)
 | int (k : IntKind)
 | bool
 | str
 | nilptr
 | nilsl
 | emp
 | ptr (id r c : Nat)
 | sl (id : Nat)
 | sub (id : Nat)
 | agg (l : List Sk)
 | tup (l : List Sk)
 | fn (f : FuncId) (l : List Sk)
 | map (id : Nat)
inductive P1 where
 | int (n : Int)
 | bool (b : Bool)
 | str (s : ByteArray)
 | nat (n : Nat)
 | rows (t : Ty) (l : List t.den)
mutual
def uy : Sk → AV → Option (List P1)
 | .any, _ => some []
 | .lit k n, .int k' m => if k = k' then (if m = n then some [] else none) else none
 | .int k, .int k' n => if k = k' then some [.int n] else none
 | .bool, .bool b => some [.bool b]
 | .str, .str s => some [.str s]
 | .nilptr, .nilptr => some []
 | .nilsl, .nilsl => some []
 | .emp, .emp => some []
 | .ptr i r c, .ptr i' r' c' => bif Nat.beq i i' && (Nat.beq r r' && Nat.beq c c') then some [] else none
 | .sl i, .sl i' => bif Nat.beq i i' then some [] else none
 | .sub i, .sub i' lo n => bif Nat.beq i i' then some [.nat lo, .nat n] else none
 | .agg s, .agg l => GV s l
 | .tup s, .tup l => GV s l
 | .fn f s, .fn f' l => bif Nat.beq f f' then GV s l else none
 | .map i, .map i' => bif Nat.beq i i' then some [] else none
 | _, _ => none
def GV : List Sk → List AV → Option (List P1)
 | [], [] => some []
 | s :: ss, v :: vs => (uy s v).bind fun p => (GV ss vs).map fun q => p ++ q
 | _, _ => none
end
mutual
def qX : Sk → List P1 → Option (AV × List P1)
 | .any, p => some (.undef, p)
 | .lit k n, p => some (.int k n, p)
 | .int k, .int n :: p => some (.int k n, p)
 | .bool, .bool b :: p => some (.bool b, p)
 | .str, .str s :: p => some (.str s, p)
 | .nilptr, p => some (.nilptr, p)
 | .nilsl, p => some (.nilsl, p)
 | .emp, p => some (.emp, p)
 | .ptr i r c, p => some (.ptr i r c, p)
 | .sl i, p => some (.sl i, p)
 | .sub i, .nat lo :: .nat n :: p => some (.sub i lo n, p)
 | .agg s, p => (Bj s p).map fun (l, p) => (.agg l, p)
 | .tup s, p => (Bj s p).map fun (l, p) => (.tup l, p)
 | .fn f s, p => (Bj s p).map fun (l, p) => (.fn f l, p)
 | .map i, p => some (.map i, p)
 | _, _ => none
def Bj : List Sk → List P1 → Option (List AV × List P1)
 | [], p => some ([], p)
 | s :: ss, p => (qX s p).bind fun (v, p) => (Bj ss p).map fun (vs, p) => (v :: vs, p)
end
inductive BSk where
 | rows (m : Nat) (e : TypeId) (t : Ty)
 | ints (m : Nat) (e : TypeId) (k : IntKind) (n : Nat)
 | mix (m : Nat) (e : TypeId) (l : List Sk)
 | map (e : TypeId) (kt vt : Ty)
 | bld (e eb : TypeId)
def NY : Nat → List P1 → Option (List Int × List P1)
 | 0, p => some ([], p)
 | n + 1, .int x :: p => (NY n p).map fun (l, p) => (x :: l, p)
 | _, _ => none
def qW : BSk → Blk → Option (List P1)
 | .ints m e k n, .rows m' e' (.int k') l => bif Nat.beq m m' && (Nat.beq e e' && Nat.beq l.length n) then (if k = k' then some (List.map P1.int l) else none) else none
 | .rows m e t, .rows m' e' t' l => bif Nat.beq m m' && Nat.beq e e' then (if h : t' = t then some [.rows t (h ▸ l)] else none) else none
 | .mix m e s, .mix m' e' l => bif Nat.beq m m' && Nat.beq e e' then GV s l else none
 | .map e kt vt, .map e' kt' vt' ks vs => bif Nat.beq e e' then (if h : kt' = kt then if h' : vt' = vt then some [.rows kt (h ▸ ks), .rows vt (h' ▸ vs)] else none else none) else none
 | .bld e eb, .bld e' eb' s => bif Nat.beq e e' && Nat.beq eb eb' then some [.str s] else none
 | _, _ => none
def NQ : BSk → List P1 → Option (Blk × List P1)
 | .ints m e k n, p => (NY n p).map fun (l, p) => (.rows m e (.int k) l, p)
 | .rows m e t, .rows t' l :: p => if h : t' = t then some (.rows m e t (h ▸ l), p) else none
 | .mix m e s, p => (Bj s p).map fun (l, p) => (.mix m e l, p)
 | .map e kt vt, .rows kt' ks :: .rows vt' vs :: p => if h : kt' = kt then if h' : vt' = vt then some (.map e kt vt (h ▸ ks) (h' ▸ vs), p) else none else none
 | .bld e eb, .str s :: p => some (.bld e eb s, p)
 | _, _ => none
structure Tpl where
 slots : List Sk
 heap : List (Nat × BSk)
 prep : List (Nat × Nat × TypeId × Ty) := []
 peel : Bool := false
mutual
def qZ (B A : Nat) : AV → AV
 | .ptr j r c => .ptr (bif Nat.beq j B then A else j) r c
 | .sl j => .sl (bif Nat.beq j B then A else j)
 | .sub j lo n => .sub (bif Nat.beq j B then A else j) lo n
 | .agg l => .agg (Az B A l)
 | .tup l => .tup (Az B A l)
 | .fn f l => .fn f (Az B A l)
 | .map j => .map (bif Nat.beq j B then A else j)
 | v => v
def Az (B A : Nat) : List AV → List AV
 | [] => []
 | v :: r => qZ B A v :: Az B A r
end
def yQ (B A : Nat) : Blk → Blk
 | .mix m e l => .mix m e (Az B A l)
 | b => b
def QZ (B A : Nat) : Heap → Heap
 | [] => []
 | (j, b) :: r => (bif Nat.beq j B then A else j, yQ B A b) :: QZ B A r
def St.rename (st : St) (B A : Nat) : St := ⟨Az B A (st.slots.map (iW A)), QZ B A (pz A (del st.heap A))⟩
def St.trim (st : St) (j B n : Nat) (e : TypeId) (t : Ty) (l : List t.den) : St := (st.fresh B (.rows 2 e t (l.take n))).put (some j) (.sl B)
def afb (low : Nat) (p : Nat × Nat × TypeId × Ty) (st : St) : St :=
 match st.slots.getD p.1 .undef with
 | .nilsl => bif Nat.ble low p.2.1 then (st.fresh p.2.1 (.rows 2 p.2.2.1 p.2.2.2 [])).put (some p.1) (.sl p.2.1) else st
 | .emp => bif Nat.ble low p.2.1 then (st.fresh p.2.1 (.rows 2 p.2.2.1 p.2.2.2 [])).put (some p.1) (.sl p.2.1) else st
 | .sl B => bif Nat.beq B p.2.1 then st else bif Nat.ble low p.2.1 && Nat.ble low B then st.rename B p.2.1 else st
 | .sub B 0 n => bif Nat.ble low p.2.1 && Nat.ble low B then (match look st.heap B with
    | some (.rows m e t l) => bif Nat.beq m 2 then (bif Nat.beq B p.2.1 then st.trim p.1 B n e t l else (st.trim p.1 B n e t l).rename B p.2.1) else st
    | _ => st) else st
 | _ => st
def YV (low : Nat) : List (Nat × Nat × TypeId × Ty) → St → St
 | [], st => st
 | p :: r, st => YV low r (afb low p st)
def aaR (h : Heap) : List (Nat × BSk) → Option (List P1)
 | [] => some []
 | (i, b) :: r => (look h i).bind fun x => (qW b x).bind fun p => (aaR h r).map fun q => p ++ q
def Uk : List (Nat × BSk) → List P1 → Option (Heap × List P1)
 | [], p => some ([], p)
 | (i, b) :: r, p => (NQ b p).bind fun (x, p) => (Uk r p).map fun (h, p) => ((i, x) :: h, p)
def Tpl.take0 (t : Tpl) (st : St) : Option (List P1) := (GV t.slots st.slots).bind fun p => (aaR st.heap t.heap).map fun q => p ++ q
def Tpl.take (low : Nat) (t : Tpl) (st : St) : Option (List P1) := t.take0 (YV low t.prep st)
def Tpl.build (t : Tpl) (p : List P1) : Option St :=
 (Bj t.slots p).bind fun (s, p) => (Uk t.heap p).bind fun (h, p) => match p with
   | [] => some ⟨s, h⟩
   | _ :: _ => none
structure Opt where
 two : Bool := false
 bm : FuncId → Nat := fun _ => 0
 T : TypeId := 0
 eb : TypeId := 0
def o0 : Opt := {}
def o1 : Opt := { two := true }
structure Lp (α : Type) where
 tpl : Tpl
 run : List P1 → (Nat → List P1 → Option α) → (Res → Option α) → Option α
structure Env (α : Type) where
 P : Program
 C : FuncId → List D → (Res → Option α) → Option α
 M : FuncId → List Nat
 eqs : TypeId → Nat → Bool
 lp : Nat → Option (Lp α)
 jt : Nat → Option Tpl
 low : Nat
 res : St → (Res → Option α) → Option α
 two : Opt := {}
def oq (E : Env α) (dst : Option Tmp) (k : Nat → Option α) : Option α := bif Nat.ble E.low (fQ dst) then k (fQ dst) else none
def IX : List AV → AV
 | [v] => v
 | vs => .tup vs
def acE (E : Env α) (dst : Option Tmp) (f : AV) (args : List AV) (st : St) (k : St → Option α) : Option α :=
 match f with
 | .fn g caps =>
   (iQ (E.M g) (args ++ caps)).bind fun ids => bif JK ids then
     (oV ids st.heap (E.M g) (args ++ caps)).bind fun ds =>
     E.C g ds fun r =>
      (backG st.heap ids r.outs).bind fun h =>
      oq E dst fun id => imps ⟨{ st with heap := h }, args ++ caps, [], id⟩ r.rs fun i => k (i.st.put dst (IX i.acc))
   else none
 | _ => none
def bldT (P : Program) (t : TypeId) : Option TypeId :=
 match P.underlying t with
 | some (.struct fs) => match fs.toList with
   | [f, g] => match P.underlying f.type, P.underlying g.type with
     | some (.pointer t'), some (.slice eb) => bif Nat.beq t t' then some eb else none
     | _, _ => none
   | _ => none
 | _ => none
def TK (P : Program) (t : TypeId) (l : List AV) : Blk := match bldT P t with
 | some eb => bif Ew l then .bld t eb ByteArray.empty else kZ 2 t l
 | none => kZ 2 t l
def aan (eb : TypeId) (id : Nat) : Heap → Bool
 | [] => true
 | (j, b) :: r => (Nat.beq j id || !(b.isBld || (Nat.beq b.mode 2 && Nat.beq b.e eb))) && aan eb id r
def aeY (O : Opt) (m : Nat) (dst : Option Tmp) (args : List AV) (st : St) (k : St → Option α) : Option α :=
 match args with
 | .ptr id 0 0 :: r => (look st.heap id).bind fun b => match b with
   | .bld e eb t => bif Nat.beq e O.T && (Nat.beq eb O.eb && aan eb id st.heap) then (match r with
     | [.str s] => bif Nat.beq m 1 && decide (t.size + s.size ≤ big) then k ({ st with heap := upd st.heap id (.bld e eb (t ++ s)) }.put dst (.tup [.int .i64 s.size, .undef])) else none
     | [] => bif Nat.beq m 2 then k ({ st with heap := upd st.heap id (.bld e eb t) }.put dst (.str t)) else bif Nat.beq m 3 then k (st.put dst (.int .i64 t.size)) else none
     | _ => none) else none
   | _ => none
 | _ => none
def BJ (h : Heap) (t : Ty) : AV → Option (List t.den)
 | .sl id => (look h id).bind fun b => match b with
   | .rows _ _ t' l => if h : t' = t then some (h ▸ l) else none
   | _ => none
 | .sub id lo n => (look h id).bind fun b => match b with
   | .rows _ _ t' l => if h : t' = t then some (((h ▸ l : List t.den).drop lo).take n) else none
   | _ => none
 | .nilsl => some []
 | .emp => some []
 | _ => none
def rZ (P : Program) (e : TypeId) : Bool :=
 match P.info? e with
 | some i => Nat.ble i.bytes 128
 | none => false
def UQ (E : Env α) (T : TypeId) (dst : Option Tmp) (s x : AV) (st : St) (k : St → Option α) : Option α :=
 match E.P.underlying T with
 | some (.slice e) => (tyOf E.P e).bind fun t => bif rZ E.P e then (dX E.P e).bind fun sz => bif Nat.beq sz t.w then (BJ st.heap t x).bind fun xs =>
   match s with
   | .sl id => (look st.heap id).bind fun b => match b with
     | .rows m e' t' l => bif Nat.beq m 2 && Nat.beq e e' then (if h : t' = t then
        bif decide (l.length + xs.length ≤ big) then k ((st.fresh id (.rows 2 e t ((h ▸ l : List t.den) ++ xs))).put dst (.sl id)) else none
       else none) else none
     | _ => none
   | .sub id 0 n => (look st.heap id).bind fun b => match b with
     | .rows m e' t' l => bif Nat.beq m 2 && Nat.beq e e' then (if h : t' = t then
        bif decide (n + xs.length ≤ big) then k ((st.fresh id (.rows 2 e t ((h ▸ l : List t.den).take n ++ xs))).put dst (.sl id)) else none
       else none) else none
     | _ => none
   | .nilsl | .emp => bif decide (xs.length ≤ big) then oq E dst fun id => k ((st.fresh id (.rows 2 e t xs)).put dst (.sl id)) else none
   | _ => none
   else none else none
 | _ => none
def PZ (E : Env α) (T : TypeId) (dst : Option Tmp) (s x : AV) (st : St) (k : St → Option α) : Option α :=
 match E.P.underlying T with
 | some (.slice e) => (tyOf E.P e).bind fun t => (nY E.P e).bind fun z => (t.dec (cellsOf z)).bind fun d => bif rZ E.P e then (dX E.P e).bind fun sz => bif Nat.beq sz t.w then
   match s, x with
   | .nilsl, .int .i64 n | .emp, .int .i64 n => bif decide (1 ≤ n) && decide (n ≤ (big : Int)) then oq E dst fun id => k ((st.fresh id (.rows 2 e t (List.replicate n.toNat d))).put dst (.sl id)) else none
   | _, _ => none
   else none else none
 | _ => none
def xX (h : Heap) : AV → Option Nat
 | .sl id => (look h id).map Blk.n
 | .sub _ _ n => some n
 | .nilsl => some 0
 | .emp => some 0
 | .str s => some s.size
 | _ => none
def vk (f : Int → Int → Int) (ka : IntKind) (x : Int) : List AV → (AV → Option α) → Option α
 | [], k => k (.int ka x)
 | .int kb y :: r, k => if ka = kb then vk f ka (f x y) r k else none
 | _ :: _, _ => none
def zV (E : Env α) (dst : Option Tmp) (b : Builtin) (ts : List TypeId) (args : List AV) (st : St) (k : St → Option α) : Option α :=
 match b, args with
 | .len, [x] => match ts with
   | [t] => match E.P.underlying t, x with
     | some (.slice _), .str _ => none
     | some .string, .str s => k (st.put dst (.int .i64 s.size))
     | some (.slice _), x => (xX st.heap x).bind fun n => k (st.put dst (.int .i64 n))
     | _, _ => none
   | _ => none
 | .cap, [x] => match ts with
   | [t] => match E.P.underlying t, x with
     | some (.slice _), .nilsl => k (st.put dst (.int .i64 0))
     | some (.slice _), .emp => k (st.put dst (.int .i64 0))
     | _, _ => none
   | _ => none
 | .append, [s, x] => match ts with
   | [t, u] => match E.P.underlying u with
     | some (.slice _) => UQ E t dst s x st k
     | some (.int _) => PZ E t dst s x st k
     | _ => none
   | _ => none
 | .max, .int ka x :: r => vk max ka x r fun v => k (st.put dst v)
 | .min, .int ka x :: r => vk min ka x r fun v => k (st.put dst v)
 | .clear, [.sub id lo n] => match ts with
   | [T] => match E.P.underlying T with
     | some (.slice e) => (look st.heap id).bind fun b => match b with
       | .rows m e' t l => (nY E.P e).bind fun z => (t.dec (cellsOf z)).bind fun d => bif !Nat.beq m 0 && Nat.beq e e' then k ({ st with heap := upd st.heap id (.rows m e' t (l.take lo ++ List.replicate n d ++ l.drop (lo + n))) }.put dst (.tup [])) else none
       | _ => none
     | _ => none
   | _ => none
 | _, _ => none
def lQ (v : Option AV) (dflt high : Nat) (k : Nat → Option α) : Option α :=
 match v with
 | none => k dflt
 | some (.int _ n) => bif decide (0 ≤ n) && decide (n ≤ (high : Int)) then k n.toNat else none
 | some _ => none
def xQ (P : Program) (T : TypeId) (x : AV) (lo hi mx : Option AV) (h : Heap) (v : AV → Option α) : Option α :=
 match P.underlying T, mx with
 | some .string, none => match x with
   | .str s => lQ hi s.size s.size fun h => lQ lo 0 h fun l => v (.str (s.extract l h))
   | _ => none
 | some (.slice e), none => match x with
   | .sl id => (look h id).bind fun b => (dX P e).bind fun s => bif Nat.beq s b.w then lQ hi b.n b.n fun h => lQ lo 0 h fun l => v (.sub id l (h - l)) else none
   | .sub id a n => (look h id).bind fun b => (dX P e).bind fun s => bif Nat.beq s b.w then lQ hi n n fun h => lQ lo 0 h fun l => v (.sub id (jq a l 1) (h - l)) else none
   | .nilsl => (dX P e).bind fun _ => lQ hi 0 0 fun h => lQ lo 0 h fun _ => v .nilsl
   | .emp => (dX P e).bind fun _ => lQ hi 0 0 fun h => lQ lo 0 h fun _ => v .emp
   | _ => none
 | some (.slice e), some (.int _ 0) => (dX P e).bind fun _ => match x, lo, hi with
   | .sl _, some (.int _ 0), some (.int _ 0) => v .emp
   | .sub _ _ _, some (.int _ 0), some (.int _ 0) => v .emp
   | .nilsl, some (.int _ 0), some (.int _ 0) => v .emp
   | _, _, _ => none
 | _, _ => none
def YY (P : Program) (T : TypeId) (dst : Option Tmp) (x : AV) (lo hi mx : Option AV) (st : St) (k : St → Option α) : Option α := xQ P T x lo hi mx st.heap fun v => k (st.put dst v)
def OQ (place : Nat → Option (Nat × Nat)) (cells : List AV) : List (Nat × AV) → Option (List AV)
 | [] => some cells
 | (i, v) :: r => (place i).bind fun (off, size) => bif gZ (cellsOf v) && (Nat.beq (cellsOf v).length size && Nat.ble (off + size) cells.length) then OQ place (lq cells off (cellsOf v)) r else none
def yV (z : List AV) : Nat → List AV
 | 0 => []
 | n + 1 => z ++ yV z n
def Yk (P : Program) (fs : List Field) (i : Nat) : Option (Nat × Nat) := (fs[i]?).bind fun f => (dX P f.type).map fun n => (f.offset, n)
def Nz (P : Program) : List Field → Bool
 | [] => true
 | f :: r => (match dX P f.type with
   | some _ => true
   | none => false) && Nz P r
def Xx (P : Program) (t : TypeId) (parts : List (Nat × AV)) : Option AV :=
 (nY P t).bind fun z => match P.underlying t with
   | some (.struct fs) => bif Nz P fs.toList then (OQ (Yk P fs.toList) (cellsOf z) parts).map .agg else none
   | some (.array _ e) => (dX P e).bind fun s => (OQ (fun i => some (i * s, s)) (cellsOf z) parts).map .agg
   | _ => none
def acO (P : Program) (e : TypeId) (s len : Nat) (cells : List AV) : Option Blk :=
 match tyOf P e with
 | some t => bif Nat.beq t.w s then (Hw t len cells).map fun l => .rows 2 e t l else none
 | none => bif gZ cells && (Nat.beq cells.length len && Nat.beq s 1) then some (.mix 2 e cells) else none
def Fq (P : Program) (T : TypeId) (len : Nat) (parts : List (Nat × AV)) : Option Blk :=
 match P.underlying T with
 | some (.slice e) => (dX P e).bind fun s => bif Nat.ble (len * s) 4096 then (nY P e).bind fun z => bif gZ (cellsOf z) && Nat.beq (cellsOf z).length s then
    (OQ (fun i => some (i * s, s)) (yV (cellsOf z) len) parts).bind fun cells => acO P e s len cells
   else none else none
 | _ => none
def IY (cs : List AV) (k : AV → Option α) : Option α :=
 match cs with
 | [x] => k x
 | _ => none
def uK : (t : Ty) → t.den → AV
 | .int k, n => .int k n
 | .bool, b => .bool b
 | .str, s => .str s
 | .pt, p => .agg (Ty.enc .pt p)
 | .tr, p => .agg (Ty.enc .tr p)
 | .qd, p => .agg (Ty.enc .qd p)
 | .hx, p => .agg (Ty.enc .hx p)
def FY (t : Ty) (x : AV) : Option t.den := match x with
 | .agg l => bif Nat.beq t.w 1 then none else t.dec l
 | x => bif Nat.beq t.w 1 then t.dec [x] else none
def vJ : (t : Ty) → t.den → t.den → Bool
 | .int _, x, y => decide (x = y)
 | .bool, x, y => x == y
 | .str, x, y => decide (x = y)
 | .pt, x, y => decide (x.1 = y.1) && decide (x.2 = y.2)
 | .tr, x, y => decide (x.1 = y.1) && (decide (x.2.1 = y.2.1) && decide (x.2.2 = y.2.2))
 | .qd, x, y => decide (x.1 = y.1) && (decide (x.2.1 = y.2.1) && (decide (x.2.2.1 = y.2.2.1) && decide (x.2.2.2 = y.2.2.2)))
 | .hx, x, y => decide (x.1 = y.1) && (decide (x.2.1 = y.2.1) && (decide (x.2.2.1 = y.2.2.1) && (decide (x.2.2.2.1 = y.2.2.2.1) && (decide (x.2.2.2.2.1 = y.2.2.2.2.1) && decide (x.2.2.2.2.2 = y.2.2.2.2.2)))))
def getM (kt vt : Ty) : List kt.den → List vt.den → kt.den → vt.den → vt.den
 | x :: ks, v :: vs, k, d => bif vJ kt k x then v else getM kt vt ks vs k d
 | _, _, _, d => d
def putK (kt : Ty) : List kt.den → kt.den → List kt.den
 | [], k => [k]
 | x :: ks, k => bif vJ kt k x then x :: ks else x :: putK kt ks k
def putV (kt vt : Ty) : List kt.den → List vt.den → kt.den → vt.den → List vt.den
 | x :: ks, u :: vs, k, v => bif vJ kt k x then v :: vs else u :: putV kt vt ks vs k v
 | _, _, _, v => [v]
def LK (P : Program) (w : Nat) : List Field → Bool
 | [] => true
 | f :: r => P.plainKey f.type && Nat.blt f.offset w && LK P w r
def IW (P : Program) (eqs : TypeId → Nat → Bool) (t : TypeId) (K : Ty) : Bool := match K with
 | .int k => match P.underlying t with
   | some (.int k') => decide (k = k')
   | _ => false
 | .bool => false
 | .str => false
 | _ => eqs t K.w && match P.underlying t with
   | some (.struct fs) => LK P K.w fs.toList
   | _ => false
def Vy : Operand → Operand → Bool
 | .tmp i, .tmp j => Nat.beq i j
 | .const (.int .i64 (.ofNat m)), .const (.int .i64 (.ofNat n)) => Nat.beq m n
 | _, _ => false
def evOp (E : Env α) (o : Oper) (st : St) (k : St → Option α) : Option α :=
 let v (x : AV) : Option α := k (st.put o.dst x)
 match o.op with
 | .move x | .assign x => v (st.get x)
 | .nilCheck x => match st.get x with
   | .ptr id r c => v (.ptr id r c)
   | _ => none
 | .pick c a b => match st.get c with
   | .bool t => bif t then v (st.get a) else v (st.get b)
   | _ => none
 | .alloc t => (nY E.P t).bind fun z => bif gZ (cellsOf z) then oq E o.dst fun id => bif AV.namesAll id (cellsOf z) then none else k ((st.fresh id (TK E.P t (cellsOf z))).put o.dst (.ptr id 0 0)) else none
 | .box t x => bif gZ (cellsOf (st.get x)) then oq E o.dst fun id => bif AV.namesAll id (cellsOf (st.get x)) then none else k ((st.fresh id (kZ 2 t (cellsOf (st.get x)))).put o.dst (.ptr id 0 0)) else none
 | .build t parts => (Xx E.P t (parts.toList.map fun (i, x) => (i, st.get x))).bind v
 | .buildSlice t len parts => (Fq E.P t len (parts.toList.map fun (i, x) => (i, st.get x))).bind fun b =>
    oq E o.dst fun id => bif AV.namesAll id b.flat then none else k ((st.fresh id b).put o.dst (.sl id))
 | .makeSlice t l c => match E.P.underlying t, st.get l with
   | some (.slice e), .int .i64 n => (tyOf E.P e).bind fun ty => (nY E.P e).bind fun z => (ty.dec (cellsOf z)).bind fun x => (dX E.P e).bind fun sz =>
      bif Nat.beq sz ty.w && (rZ E.P e && Vy l c) then
      bif decide (0 ≤ n) && decide (n ≤ (big : Int)) then oq E o.dst fun id => k ((st.fresh id (.rows 2 e ty (List.replicate n.toNat x))).put o.dst (.sl id)) else none
      else none
   | _, _ => none
 | .load t a => match st.get a with
   | .ptr id r c => (look st.heap id).bind fun b => (dX E.P t).bind fun n => (aggT E.P t).bind fun ag =>
     b.read r c n fun cs => bif ag then v (.agg cs) else IY cs v
   | _ => none
 | .store t a x => match st.get a with
   | .ptr id r c => (look st.heap id).bind fun b => (dX E.P t).bind fun n =>
     bif Nat.beq (cellsOf (st.get x)).length n then b.write r c (cellsOf (st.get x)) fun b' => k ({ st with heap := upd st.heap id b' }.put o.dst .undef) else none
   | _ => none
 | .binOp op t x y _ => SQ E.P E.eqs t op (st.get x) (st.get y) v
 | .unOp op _ x => evUn op (st.get x) v
 | .convert s d x => match E.P.underlying s, E.P.underlying d, st.get x with
   | some _, some (.int k), .int _ n => v (.int k (k.wrap n))
   | some _, some .string, .str s => v (.str s)
   | _, _, _ => none
 | .fieldAddr s x f => match E.P.underlying s, st.get x with
   | some (.struct fs), .ptr id r c => (fs[f]?).bind fun fd => (dX E.P fd.type).bind fun n => bif Nat.beq n 0 then none else (look st.heap id).bind fun b =>
     bif Nat.beq b.w 1 then v (.ptr id (jq r fd.offset 1) c) else v (.ptr id r (jq c fd.offset 1))
   | _, _ => none
 | .field t x f => match E.P.underlying t, st.get x with
   | some (.struct fs), .agg l => (fs[f]?).bind fun fd => (dX E.P fd.type).bind fun n => (aggT E.P fd.type).bind fun ag =>
     bif ag then v (.agg ((l.drop fd.offset).take n)) else (l[fd.offset]?).bind v
   | _, _ => none
 | .indexAddr t x i => match E.P.underlying t, st.get x, st.get i with
   | some (.array len e), .ptr id r c, .int _ n => (dX E.P e).bind fun s => (look st.heap id).bind fun b =>
     bif decide (0 ≤ n) && decide (n < (len : Int)) then bif Nat.beq b.w 1 then v (.ptr id (jq r n.toNat s) c) else v (.ptr id r (jq c n.toNat s))
     else none
   | some (.slice e), .sl id, .int _ n => (dX E.P e).bind fun s => (look st.heap id).bind fun b =>
     bif Nat.beq s b.w then bif decide (0 ≤ n) && decide (n < (b.n : Int)) then v (.ptr id n.toNat 0) else none else none
   | some (.slice e), .sub id lo m, .int _ n => (dX E.P e).bind fun s => (look st.heap id).bind fun b =>
     bif Nat.beq s b.w then bif decide (0 ≤ n) && decide (n < (m : Int)) then v (.ptr id (jq lo n.toNat 1) 0) else none else none
   | _, _, _ => none
 | .index t x i => match E.P.underlying t, st.get x, st.get i with
   | some .string, .str s, .int _ n => bif decide (0 ≤ n) then (s.data.toList[n.toNat]?).bind fun c => v (.int .u8 c.toNat) else none
   | some (.array len e), .agg l, .int _ n => (dX E.P e).bind fun s => (aggT E.P e).bind fun ag =>
     bif decide (0 ≤ n) && decide (n < (len : Int)) then bif ag then v (.agg ((l.drop (jq 0 n.toNat s)).take s)) else (l[jq 0 n.toNat s]?).bind v
     else none
   | _, _, _ => none
 | .slice t x lo hi mx => YY E.P t o.dst (st.get x) (lo.map st.get) (hi.map st.get) (mx.map st.get) st k
 | .extract x i => match st.get x with
   | .tup l => (l[i]?).bind v
   | _ => none
 | .makeMap t r => match r, E.P.underlying t with
   | none, some (.map kt et) => (tyOf E.P kt).bind fun K => (tyOf E.P et).bind fun V => oq E o.dst fun id => k ((st.fresh id (.map t K V [] [])).put o.dst (.map id))
   | _, _ => none
 | .lookup t x i ok => bif ok then none else match E.P.underlying t, st.get x with
   | some (.map kt et), .map id => (look st.heap id).bind fun b => match b with
     | .map _ K V ks vs => (nY E.P et).bind fun z => (FY V z).bind fun d => (FY K (st.get i)).bind fun key =>
       bif IW E.P E.eqs kt K then v (uK V (getM K V ks vs key d)) else none
     | _ => none
   | _, _ => none
 | .mapUpdate t x i y => match E.P.underlying t, st.get x with
   | some (.map kt _), .map id => (look st.heap id).bind fun b => match b with
     | .map e K V ks vs => (FY V (st.get y)).bind fun u => (FY K (st.get i)).bind fun key =>
       bif IW E.P E.eqs kt K then k ({ st with heap := upd st.heap id (.map e K V (putK K ks key) (putV K V ks vs key u)) }.put o.dst .undef) else none
     | _ => none
   | _, _ => none
 | .makeFunc fn first caps => match fn, first.toList with
   | .func f, [] => v (.fn f (caps.toList.map st.get))
   | _, _ => none
 | .call c => match c.callee with
   | .value f => acE E o.dst (st.get f) (c.args.toList.map st.get) st k
   | .builtin b => zV E o.dst b c.argTypes.toList (c.args.toList.map st.get) st k
   | .invoke _ _ => none
 | _ => none
def Fv (ops : Array Oper) (j : Nat) (st : St) : Option (Nat × Bool) :=
 ((ops[j]?).bind (·.dst)).bind fun d => match st.slots.getD d .undef with
   | .bool b => some (d, b)
   | _ => none
def JY (ops : Array Oper) (j : Nat) (st : St) : Bool :=
 match (ops[j]?).bind (·.dst) with
 | some d => match st.slots.getD d .undef with
   | .tup l => match l with
     | [] => true
     | _ :: _ => false
   | _ => false
 | none => false
noncomputable def both (a b : Option α) : Option α := @ite _ (a = b) (Classical.propDecidable _) a none
noncomputable def aap (two : Bool) (k : Bool → Option α) : Option α := bif two then both (k true) (k false) else none
noncomputable def acs (two : Bool) (h : Heap) (x : AV) (k : Bool → Option α) : Option α := match x with
 | .nilsl => k true
 | .emp => aap two k
 | .sl id => (look h id).bind fun b => bif Nat.beq b.n 0 then aap two k else k false
 | .sub _ _ n => bif Nat.beq n 0 then aap two k else k false
 | _ => none
noncomputable def aaA (E : Env α) (o : Oper) (st : St) (k : St → Option α) : Option α := match o.op with
 | .binOp op t x y _ => match st.get y with
   | .nilsl => match E.P.underlying t, op with
     | some (.slice _), .eql => acs E.two.two st.heap (st.get x) fun b => k (st.put o.dst (.bool b))
     | some (.slice _), .neq => acs E.two.two st.heap (st.get x) fun b => k (st.put o.dst (.bool (!b)))
     | _, _ => none
   | _ => evOp E o st k
 | .call c => match c.callee with
   | .value f => match f with
     | .func g => bif Nat.beq (E.two.bm g) 0 then evOp E o st k else aeY E.two (E.two.bm g) o.dst (c.args.toList.map st.get) st k
     | _ => evOp E o st k
   | _ => evOp E o st k
 | _ => evOp E o st k
noncomputable def IV (E : Env α) (ops : Array Oper) : List Oper → St → (St → Option α) → Option α
 | [], st, k => k st
 | o :: rest, st, k =>
   match o.guard with
   | none => aaA E o st fun st => IV E ops rest st k
   | some (j, want) => match Fv ops j st with
     | some (d, b) =>
       bif b then
        (bif want then aaA E o (st.put (some d) (.bool true)) fun st => IV E ops rest st k else IV E ops rest ((st.put (some d) (.bool true)).put o.dst (.tup [])) k)
       else
        (bif want then IV E ops rest ((st.put (some d) (.bool false)).put o.dst (.tup [])) k else aaA E o (st.put (some d) (.bool false)) fun st => IV E ops rest st k)
     | none => bif JY ops j st then IV E ops rest (st.put o.dst (.tup [])) k else none
def pY : Op → Bool
 | .move _ => true
 | .nilCheck _ => true
 | .slice _ _ _ _ _ => true
 | .build _ _ => true
 | .assign _ => true
 | .load _ _ => true
 | .binOp _ _ _ _ _ => true
 | .unOp _ _ _ => true
 | .convert _ _ _ => true
 | .fieldAddr _ _ _ => true
 | .field _ _ _ => true
 | .indexAddr _ _ _ => true
 | .index _ _ _ => true
 | .extract _ _ => true
 | .pick _ _ _ => true
 | .call c => match c.callee with
   | .builtin .len => true
   | .builtin .max => true
   | .builtin .min => true
   | _ => false
 | _ => false
def wZ : Op → Bool
 | .call c => match c.callee with
   | .value _ => true
   | _ => false
 | _ => false
def kV : List Operand → List Nat
 | [] => []
 | .tmp t :: r => t :: kV r
 | _ :: r => kV r
def qw (ops : Array Oper) (o : Oper) : List Nat :=
 match o.guard with
 | none => []
 | some (j, _) => match (ops[j]?).bind (·.dst) with
   | some d => [d]
   | none => []
def kJ : Op → Bool
 | .alloc _ => true
 | .box _ _ => true
 | .buildSlice _ _ _ => true
 | .makeSlice _ _ _ => true
 | _ => false
def RQ : Op → Bool
 | .call c => match c.callee with
   | .builtin b => match b with
     | .append => true
     | _ => false
   | _ => false
 | _ => false
def oZ (o : Op) : Bool := pY o || kJ o
def nJ (o : Op) : Bool := kJ o || wZ o
def yZ (ops : Array Oper) (a b : Oper) : Bool := (oZ a.op && oZ b.op) && (match a.dst, b.dst with
 | some x, some y => !Nat.beq x y && (!memN x (kV b.op.operands.toList ++ qw ops b) && !memN y (kV a.op.operands.toList ++ qw ops a))
 | _, _ => false)
def gJ : Op → Bool
 | .move _ => true
 | .nilCheck _ => true
 | .build _ _ => true
 | .assign _ => true
 | .pick _ _ _ => true
 | .binOp _ _ _ _ _ => true
 | .unOp _ _ _ => true
 | .convert _ _ _ => true
 | .field _ _ _ => true
 | .index _ _ _ => true
 | .extract _ _ => true
 | .call c => match c.callee with
   | .builtin .max => true
   | .builtin .min => true
   | _ => false
 | _ => false
def lV : Op → Bool
 | .slice _ _ _ _ _ => true
 | .fieldAddr _ _ _ => true
 | .indexAddr _ _ _ => true
 | .call c => match c.callee with
   | .builtin .len => true
   | _ => false
 | _ => false
def uZ : List Edge → List Nat
 | [] => []
 | e :: r => bif Region.binds .any e then e.on :: uZ r else uZ r
def subN : List Nat → List Nat → Bool
 | [], _ => true
 | x :: r, l => memN x l && subN r l
def aai (ops : Array Oper) (done : List Nat) (i : Nat) : Bool := !memN i done && (match ops[i]? with
 | some o => subN (uZ o.after.toList) done
 | none => false)
def adG (p : Nat → Bool) : Nat → Nat → Option Nat
 | _, 0 => none
 | i, n + 1 => bif p i then some i else adG p (i + 1) n
def ajE (ops : Array Oper) (i : Nat) : Bool := match ops[i]? with
 | some o => oZ o.op
 | none => false
def CY (ops : Array Oper) : Nat → List Nat → List Nat
 | 0, done => done.reverse
 | n + 1, done => match adG (fun i => aai ops done i && ajE ops i) 0 ops.size with
   | some i => CY ops n (i :: done)
   | none => match adG (aai ops done) 0 ops.size with
     | some i => CY ops n (i :: done)
     | none => done.reverse
def Ik : List (Nat × List Nat) → Nat → List Nat
 | [], _ => []
 | (j, l) :: r, i => bif Nat.beq j i then l else Ik r i
def YQ : List Nat → List Nat → List Nat
 | [], l => l
 | x :: r, l => bif memN x l then YQ r l else YQ r (x :: l)
def DK (t : List (Nat × List Nat)) : List Nat → List Nat
 | [] => []
 | e :: r => YQ (e :: Ik t e) (DK t r)
def Qz (ops : Array Oper) : Nat → Nat → List (Nat × List Nat) → List (Nat × List Nat)
 | 0, _, t => t
 | n + 1, i, t => Qz ops n (i + 1) ((i, DK t (match ops[i]? with
   | some o => uZ o.after.toList
   | none => [])) :: t)
def Nj (anc : List Nat) : Nat → List Oper → List Nat
 | _, [] => []
 | j, o :: r => match o.op with
   | .load _ x => match x with
     | .tmp s => bif memN j anc then Nj anc (j + 1) r else s :: Nj anc (j + 1) r
     | _ => Nj anc (j + 1) r
   | _ => Nj anc (j + 1) r
def ZX (anc : List Nat) : Nat → List Oper → List Nat
 | _, [] => []
 | j, o :: r => bif pY o.op && !gJ o.op && !memN j anc then kV o.op.operands.toList ++ ZX anc (j + 1) r else ZX anc (j + 1) r
def aeu (i : Nat) : List Nat → List Nat
 | [] => []
 | j :: r => bif Nat.beq j i then [] else j :: aeu i r
def QK (ops : Array Oper) (anc : List Nat) : List Nat → List Nat
 | [] => []
 | j :: r => match ops[j]? with
   | some o => bif pY o.op && !memN j anc then kV o.op.operands.toList ++ (match o.dst with
     | some d => d :: QK ops anc r
     | none => QK ops anc r) else QK ops anc r
   | none => QK ops anc r
def zy (ops : Array Oper) (i : Nat) : List Nat := match ops[i]? with
 | some o => match o.op with
   | .store _ _ _ => Nj (Ik (Qz ops ops.size 0 []) i) 0 ops.toList
   | .call c => match c.callee with
     | .value _ => ZX (Ik (Qz ops ops.size 0 []) i) 0 ops.toList
     | .builtin b => match b with
       | .append => QK ops (Ik (Qz ops ops.size 0 []) i) (aeu i (CY ops ops.size []))
       | _ => []
     | _ => []
   | _ => []
 | none => []
def jX (o : Op) (l : List Nat) : Bool := match o with
 | .load _ x => match x with
   | .tmp s => memN s l
   | _ => false
 | _ => false
def rmN (x : Nat) : List Nat → List Nat
 | [] => []
 | y :: r => bif Nat.beq x y then rmN x r else y :: rmN x r
def Aq (ops : Array Oper) (j : Nat) (L : List Nat) : List Nat := match (ops[j]?).bind (·.dst) with
 | some x => rmN x L
 | none => L
def tX (ops : Array Oper) (L : List Nat) (a : Oper) (b : Oper) : Bool := match b.op with
 | .store _ _ _ => match a.dst, b.dst with
   | some x, none => !memN x (kV b.op.operands.toList ++ qw ops b) && (oZ a.op && (gJ a.op || kJ a.op || lV a.op || jX a.op (rmN x L)))
   | _, _ => false
 | _ => false
def pJ (ops : Array Oper) (L : List Nat) (a : Oper) (b : Oper) : Bool := (oZ a.op && wZ b.op) && (match a.dst, b.dst with
 | some x, some y => (!Nat.beq x y && (!memN x (kV b.op.operands.toList ++ qw ops b) && !memN y (kV a.op.operands.toList ++ qw ops a))) && (gJ a.op || kJ a.op || subN (kV a.op.operands.toList) (rmN x L))
 | _, _ => false)
def tV (ops : Array Oper) (L : List Nat) (a : Oper) (b : Oper) : Bool := (pY a.op && ((gJ a.op || lV a.op) && RQ b.op)) && (match a.dst, b.dst with
 | some x, some y => (!Nat.beq x y && (!memN x (kV b.op.operands.toList ++ qw ops b) && !memN y (kV a.op.operands.toList ++ qw ops a))) && (memN x L && subN (kV a.op.operands.toList) (rmN x L))
 | _, _ => false)
def jW (o : Oper) : Nat := o.dst.getD 0
def VZ (anc : List Nat) (i : Nat) : Nat → List Oper → List Nat
 | _, [] => []
 | j, o :: r => bif nJ o.op && (!Nat.beq j i && !memN j anc) then jW o :: VZ anc i (j + 1) r else VZ anc i (j + 1) r
def kK (ops : Array Oper) (i : Nat) : List Nat := VZ (Ik (Qz ops ops.size 0 []) i) i 0 ops.toList
def pq (ops : Array Oper) (o : Oper) (j : Nat) : Bool := !nJ o.op || (memN (jW o) (kK ops j) && (match ops[j]? with
 | some oj => !Nat.beq (jW o) (jW oj)
 | none => false))
def BV (ops : Array Oper) : List Nat → List (Nat × List Nat) → List Nat → Bool
 | [], _, done => allIn ops.size done
 | i :: r, t, done => match ops[i]? with
   | some o => (aai ops done i && (pairsOK ops i o (DK t (uZ o.after.toList)) (zy ops i) done && BV ops r ((i, DK t (uZ o.after.toList)) :: t) (i :: done)))
   | none => false
where
 allIn : Nat → List Nat → Bool
  | 0, _ => true
  | n + 1, l => memN n l && allIn n l
 pairsOK (ops : Array Oper) (i : Nat) (o : Oper) (w : List Nat) : List Nat → List Nat → Bool
  | _, [] => true
  | L, j :: r => (pq ops o j && (memN j w || (match ops[j]? with
    | some oj => (yZ ops oj o || tX ops L oj o || pJ ops L oj o || tV ops L oj o) && pq ops oj i
    | none => false))) && pairsOK ops i o w (Aq ops j L) r
mutual
def AV.at (d : Nat) : AV → Bool
 | .ptr j _ _ => Nat.beq (j / 64) d
 | .sl j => Nat.beq (j / 64) d
 | .sub j _ _ => Nat.beq (j / 64) d
 | .agg l => AV.atAll d l
 | .tup l => AV.atAll d l
 | .fn _ l => AV.atAll d l
 | .map j => Nat.beq (j / 64) d
 | _ => false
def AV.atAll (d : Nat) : List AV → Bool
 | [] => false
 | x :: r => x.at d || AV.atAll d r
end
def Blk.at (d : Nat) : Blk → Bool
 | .mix _ _ l => AV.atAll d l
 | _ => false
def NK (d : Nat) : Heap → Bool
 | [] => false
 | (j, b) :: r => Nat.beq (j / 64) d || (b.at d || NK d r)
def QV (d : Nat) (v : AV) : AV := bif v.at d then .undef else v
def pK (d : Nat) : Blk → Blk
 | .mix m e l => .mix m e (l.map (QV d))
 | b => b
def xK (d : Nat) : Heap → Heap
 | [] => []
 | (j, b) :: r => bif Nat.beq (j / 64) d then xK d r else (j, pK d b) :: xK d r
def St.drop (st : St) (d : Nat) : St := ⟨st.slots.map (QV d), xK d st.heap⟩
def dropAll : List Nat → St → St
 | [], st => st
 | d :: r, st => dropAll r (st.drop d)
def nX : List Oper → List Nat
 | [] => []
 | o :: r => bif nJ o.op then jW o :: nX r else nX r
def insH (id : Nat) (b : Blk) : Heap → Heap
 | [] => [(id, b)]
 | (j, c) :: r => bif Nat.ble j id then (j, c) :: insH id b r else (id, b) :: (j, c) :: r
def gz : List (Nat × Blk) → Heap → Heap
 | [], h => h
 | (id, b) :: r, h => gz r (insH id b h)
def mkSt (st : St) (dst : Option Tmp) (bs : List (Nat × Blk)) (v : AV) : St := St.put ⟨st.slots, gz bs st.heap⟩ dst v
def vZ : List Nat → AV → Bool
 | [], _ => true
 | d :: r, v => !v.at d && vZ r v
def zk (ns : List Nat) : List (Nat × Blk) → Bool
 | [] => true
 | (_, b) :: r => (match b with
   | .mix _ _ l => vZ ns (.agg l)
   | _ => true) && zk ns r
def TW (dst : Option Tmp) (st : St) : AV := match dst with
 | some d => st.slots.getD d .undef
 | none => .undef
def IK (E : Env α) (o : Oper) (st : St) : Option (Blk × AV) :=
 bif Nat.ble E.low (fQ o.dst) then match o.op with
 | .alloc t => (nY E.P t).bind fun z => bif gZ (cellsOf z) && !AV.namesAll (fQ o.dst) (cellsOf z) then some (TK E.P t (cellsOf z), .ptr (fQ o.dst) 0 0) else none
 | .box t x => bif gZ (cellsOf (st.get x)) && !AV.namesAll (fQ o.dst) (cellsOf (st.get x)) then some (kZ 2 t (cellsOf (st.get x)), .ptr (fQ o.dst) 0 0) else none
 | .buildSlice t len parts => (Fq E.P t len (parts.toList.map fun (i, x) => (i, st.get x))).bind fun b => bif AV.namesAll (fQ o.dst) b.flat then none else some (b, .sl (fQ o.dst))
 | .makeSlice t l c => match E.P.underlying t, st.get l with
   | some (.slice e), .int .i64 n => (tyOf E.P e).bind fun ty => (nY E.P e).bind fun z => (ty.dec (cellsOf z)).bind fun x => (dX E.P e).bind fun sz =>
      bif Nat.beq sz ty.w && (rZ E.P e && Vy l c) then
      bif decide (0 ≤ n) && decide (n ≤ (big : Int)) then some (.rows 2 e ty (List.replicate n.toNat x), .sl (fQ o.dst)) else none
      else none
   | _, _ => none
 | _ => none
 else none
def impC (n : Nat) (d : D) : Option (List (Nat × Blk) × AV × Nat) := match d with
 | .sl e t l => some ([(n, .rows 2 e t l)], .sl n, n + 1)
 | d => (lK d).map fun v => ([], v, n)
def JQ (n : Nat) : List D → Option (List (Nat × Blk) × List AV × Nat)
 | [] => some ([], [], n)
 | d :: r => (impC n d).bind fun p => (JQ p.2.2 r).map fun q => (p.1 ++ q.1, p.2.1 :: q.2.1, q.2.2)
def imp1 (avs : List AV) (n : Nat) (d : D) : Option (List (Nat × Blk) × AV × Nat) := match d with
 | .agg l => (JQ n l).map fun q => (q.1, .agg q.2.1, q.2.2)
 | .ptr e l => (JQ n l).map fun q => (q.1 ++ [(q.2.2, kZ 2 e q.2.1)], .ptr q.2.2 0 0, q.2.2 + 1)
 | .same j => (avs[j]?).map fun v => ([], v, n)
 | d => impC n d
def KJ (avs : List AV) (n : Nat) : List D → Option (List (Nat × Blk) × List AV × Nat)
 | [] => some ([], [], n)
 | d :: r => (imp1 avs n d).bind fun p => (KJ avs p.2.2 r).map fun q => (p.1 ++ q.1, p.2.1 :: q.2.1, q.2.2)
def TQ (avs : List AV) (n : Nat) (r : Res) : Option (List (Nat × Blk) × AV) :=
 (KJ avs n r.rs).bind fun q => bif Nat.ble q.2.2 (n + 64) then some (q.1, IX q.2.1) else none
def Ij (E : Env α) (dst : Option Tmp) (f : AV) (args : List AV) (h : Heap) : Option (FuncId × List D × List AV × List Nat) :=
 match f with
 | .fn g caps => (iQ (E.M g) (args ++ caps)).bind fun ids =>
    bif JK ids && Nat.ble E.low (fQ dst) then (oV ids h (E.M g) (args ++ caps)).map fun ds => (g, ds, args ++ caps, ids) else none
 | _ => none
def abz (E : Env α) (ns : List Nat) (dst : Option Tmp) (f : AV) (args : List AV) (st : St) (k : St → Option α) : Option α :=
 (Ij E dst f args st.heap).bind fun p => E.C p.1 p.2.1 fun r => (back st.heap p.2.2.2 r.outs).bind fun h => (TQ p.2.2.1 (fQ dst) r).bind fun q => bif vZ ns q.2 && zk ns q.1 then k (mkSt ⟨st.slots, h⟩ dst q.1 q.2) else none
def vK (E : Env α) (ns : List Nat) (o : Oper) (st : St) (k : St → Option α) : Option α :=
 bif kJ o.op then (IK E o st).bind fun q => bif vZ ns q.2 && zk ns [(fQ o.dst, q.1)] then k (mkSt st o.dst [(fQ o.dst, q.1)] q.2) else none
 else bif pY o.op then evOp E o st fun s => bif vZ ns (TW o.dst s) then k s else none
 else bif wZ o.op then (match o.op with
  | .call c => match c.callee with
    | .value f => abz E ns o.dst (st.get f) (c.args.toList.map st.get) st k
    | _ => none
  | _ => none)
 else match o.op with
 | .store _ _ x => bif vZ ns (st.get x) then evOp E o st k else none
 | _ => match ns with
   | [] => evOp E o st k
   | _ :: _ => none
def sK (ops : Array Oper) (o : Oper) (st : St) : Option Bool :=
 match o.guard with
 | none => some true
 | some (j, want) => match Fv ops j st with
   | some (_, b) => some (bif want then b else !b)
   | none => bif JY ops j st then some false else none
def kW (E : Env α) (ops : Array Oper) (ns : List Nat) (o : Oper) (st : St) (k : St → Option α) : Option α :=
 (sK ops o st).bind fun g => bif g then vK E ns o st k else k (st.put o.dst (.tup []))
def afe (E : Env α) (ops : Array Oper) (ns : List Nat) (o : Oper) (st : St) (k : St → Option α) : Option α :=
 match o.guard with
 | none => vK E ns o st k
 | some (j, want) => match Fv ops j st with
   | some (d, b) =>
     bif b then
      (bif want then vK E ns o (st.put (some d) (.bool true)) k else k ((st.put (some d) (.bool true)).put o.dst (.tup [])))
     else
      (bif want then k ((st.put (some d) (.bool false)).put o.dst (.tup [])) else vK E ns o (st.put (some d) (.bool false)) k)
   | none => bif JY ops j st then k (st.put o.dst (.tup [])) else none
def Gx (st : St) (id : Nat) : List Nat → Bool
 | [] => true
 | s :: r => (match st.slots.getD s .undef with
   | .ptr j _ _ => !Nat.beq j id
   | _ => false) && Gx st id r
def Fz (st : St) : List Nat → List Nat → Bool
 | [], _ => true
 | id :: r, L => freeOf1 st id L && Fz st r L
where
 freeOf1 (st : St) (id : Nat) : List Nat → Bool
  | [] => true
  | s :: r => !(st.slots.getD s .undef).names id && freeOf1 st id r
def ae9 (dst : Option Tmp) : AV → Nat
 | .sl id => id
 | .sub id _ _ => id
 | _ => fQ dst
def chkL (E : Env α) (L : List Nat) (o : Oper) (st : St) : Bool := match o.op with
 | .store _ a _ => match L with
   | [] => true
   | s :: r => match st.get a with
     | .ptr id _ _ => Gx st id (s :: r)
     | _ => false
 | .call c => match c.callee with
   | .value f => match st.get f with
     | .fn g caps => match iQ (E.M g) (c.args.toList.map st.get ++ caps) with
       | some ids => Fz st ids L
       | none => true
     | _ => true
   | .builtin b => match b with
     | .append => match c.args.toList with
       | s :: _ => Fz.freeOf1 st (ae9 o.dst (st.get s)) L
       | [] => true
     | _ => true
   | _ => true
 | _ => true
def chkQ (E : Env α) (ops : Array Oper) (i : Nat) (o : Oper) (st : St) : Bool := chkL E (zy ops i) o st
def Bv (E : Env α) (ops : Array Oper) : List Nat → St → (St → Option α) → Option α
 | [], st, k => k st
 | i :: r, st, k => match ops[i]? with
   | some o => bif chkQ E ops i o st then afe E ops (kK ops i) o st fun st => Bv E ops r st k else none
   | none => none
def ada (E : Env α) (ops : Array Oper) (st : St) (k : St → Option α) : Option α :=
 bif E.P.follows .mixedOrders && BV ops (CY ops ops.size []) [] [] then Bv E ops (CY ops ops.size []) (dropAll (nX ops.toList) st) k else none
def WZ (round : St → (Out → Option α) → Option α) : Nat → St → (Out → Option α) → Option α
 | 0, _, _ => none
 | n + 1, st, k => round st fun out => match out with
   | .normal st' => WZ round n st' k
   | .exit j st' => k (.exit j st')
   | .ret r => k (.ret r)
def gY : Code → Option Nat
 | .region id _ _ => some id
 | .seq a b => match gY a with
   | some i => some i
   | none => gY b
 | .block _ b => gY b
 | .loop b => gY b
 | .cond _ a b => match gY a with
   | some i => some i
   | none => gY b
 | _ => none
def adl (low : Nat) (t : Option Tpl) (st : St) (k : St → Option α) : Option α := match t with
 | none => k st
 | some t => (t.take low st).bind fun p => (t.build p).bind k
noncomputable def acR (E : Env α) (ops : Array Oper) (draw : Bool) (st : St) (k : St → Option α) : Option α :=
 bif draw then ada E ops st k else IV E ops ops.toList st k
def jtOf : List (Nat × Tpl) → Nat → Option Tpl
 | [], _ => none
 | (j, t) :: r, id => bif Nat.beq j id then some t else jtOf r id
def acu (E : Env α) (b : Code) (L : Lp α) (st : St) (k : Out → Option α) : Option α := match L.tpl.take E.low st with
 | some p => L.run p (fun j q => (L.tpl.build q).bind fun st' => k (.exit j st')) fun r => k (.ret r)
 | none => ((gY b).bind fun i => E.lp (i + 100000)).bind fun L => (L.tpl.take E.low st).bind fun p => L.run p (fun j q => (L.tpl.build q).bind fun st' => k (.exit j st')) fun r => k (.ret r)
noncomputable def ev (E : Env α) : Code → St → (Out → Option α) → Option α
 | .skip, st, k => k (.normal st)
 | .label _, st, k => k (.normal st)
 | .ret, st, k => E.res st fun r => k (.ret r)
 | .exit id, st, k => k (.exit id st)
 | .region id ops draw, st, k => adl E.low (E.jt id) st fun st => acR E ops draw st fun st => k (.normal st)
 | .seq a b, st, k => ev E a st fun out => match out with
   | .normal st => ev E b st k
   | .exit j st => k (.exit j st)
   | .ret r => k (.ret r)
 | .cond c a b, st, k => match st.get c with
   | .bool t => bif t then ev E a st k else ev E b st k
   | _ => none
 | .block id b, st, k => ev E b st fun out => match out with
   | .normal st => k (.normal st)
   | .exit j st => bif Nat.beq j id then k (.normal st) else k (.exit j st)
   | .ret r => k (.ret r)
 | .loop b, st, k => match (gY b).bind E.lp with
   | none => WZ (fun st k => ev E b st k) 40 st k
   | some L => bif L.tpl.peel then ev E b st fun out => match out with
      | .normal st' => acu E b L st' k
      | .exit j st' => k (.exit j st')
      | .ret r => k (.ret r)
     else acu E b L st k
 | _, _, _ => none
def Qw (low : Nat) (t : Tpl) (again : List P1 → Option α) (brk : Nat → List P1 → Option α) (ret : Res → Option α) : Out → Option α
 | .normal st => (t.take low st).bind again
 | .exit j st => (t.take low st).bind (brk j)
 | .ret r => ret r
def aev (np id : Nat) : Bool := Nat.beq (id / 64 * 64) id && Nat.blt (id / 64) np
def acw (m id : Nat) (gone used : List Nat) : Bool := (Nat.beq m 2 || (!Nat.beq m 0 && memN id gone)) && !memN id used
def Pv (h : Heap) (np : Nat) (gone used : List Nat) (v : AV) : Option (D × List Nat) :=
 match v with
 | .sl id => (look h id).bind fun b => bif Nat.beq b.mode 0 then (bif aev np id then some (.same (id / 64), used) else none) else match b with
   | .rows m e t l => bif acw m id gone used then some (.sl e t l, id :: used) else none
   | _ => none
 | .sub id 0 n => (look h id).bind fun b => match b with
   | .rows m e t l => bif acw m id gone used then some (.sl e t (l.take n), id :: used) else none
   | _ => none
 | v => (Bq v).map fun d => (d, used)
def Gy (h : Heap) (np : Nat) (gone : List Nat) : List Nat → List AV → Option (List D × List Nat)
 | used, [] => some ([], used)
 | used, v :: vs => (Pv h np gone used v).bind fun (d, used) => (Gy h np gone used vs).map fun (ds, used) => (d :: ds, used)
def resD (h : Heap) (np : Nat) (gone used : List Nat) (v : AV) : Option (D × List Nat) :=
 match v with
 | .agg l => (Gy h np gone used l).map fun (ds, used) => (.agg ds, used)
 | .ptr id 0 0 => (look h id).bind fun b => bif Nat.beq b.mode 2 then (Gy h np gone used b.flat).bind fun (ds, used) => match ds with
    | [] => none
    | d :: ds => bif memN id used then none else some (.ptr b.e (d :: ds), id :: used)
   else none
 | v => Pv h np gone used v
def CQ (P : Program) (np : Nat) (gone : List Nat) : List ResultVar → List Nat → St → (List D → Option α) → Option α
 | [], _, _, k => k []
 | .tmp t :: r, used, st, k => (resD st.heap np gone used (st.slots.getD t .undef)).bind fun (d, used) => CQ P np gone r used st fun ds => k (d :: ds)
 | .cell a t :: r, used, st, k => match st.slots.getD a .undef with
   | .ptr id i c => (look st.heap id).bind fun b => (dX P t).bind fun n => (aggT P t).bind fun ag => b.read i c n fun cs =>
     bif ag then (resD st.heap np gone used (.agg cs)).bind fun (d, used) => CQ P np gone r used st fun ds => k (d :: ds)
     else IY cs fun x => (resD st.heap np gone used x).bind fun (d, used) => CQ P np gone r used st fun ds => k (d :: ds)
   | _ => none
def aiF (sl : List AV) (id : Nat) : ResultVar → Bool
 | .tmp t => match sl.getD t .undef with
   | .sl j => Nat.beq j id
   | .sub j 0 _ => Nat.beq j id
   | _ => false
 | _ => false
def GZ (sl : List AV) (rs : List ResultVar) : List (Bool × Nat × Blk) → List Nat
 | [] => []
 | (s, id, _) :: r => bif s && rs.any (aiF sl id) then id :: GZ sl rs r else GZ sl rs r
def Rq (gone : List Nat) : List (Bool × Nat × Blk) → List D → List D
 | (s, id, _) :: r, o :: os => (bif s && memN id gone then .nilsl else o) :: Rq gone r os
 | _, os => os
def aeL (gone : List Nat) : List Nat → List Nat
 | [] => []
 | x :: r => bif memN x gone then aeL gone r else x :: aeL gone r
def zK : List AV → List AV → Option (List D)
 | [], [] => some []
 | v :: vs, u :: us => match v, u with
   | .sl i, .sl j => bif Nat.beq i j then (zK vs us).map (.keep :: ·) else none
   | _, u => (Bq u).bind fun d => (zK vs us).map (d :: ·)
 | _, _ => none
def outD (h : Heap) (id : Nat) (b0 : Blk) : Option D :=
 (look h id).bind fun b => bif Nat.beq b.e b0.e then match b0, b with
   | .rows _ _ _ _, .rows _ _ t l => (mQ (l.flatMap t.enc)).map (.ptr b0.e)
   | .mix _ _ l0, .mix _ _ l => (zK l0 l).map (.ptr b0.e)
   | _, _ => none
 else none
def ais (h : Heap) (id : Nat) (b0 : Blk) : Option D :=
 (look h id).bind fun b => match b0, b with
   | .rows _ e t _, .rows _ e' t' l => if h : t' = t then bif Nat.beq e' e then some (.sl e t (h ▸ l)) else none else none
   | _, _ => none
def YJ (h : Heap) : List (Bool × Nat × Blk) → Option (List D)
 | [] => some []
 | (s, id, b) :: r => (bif s then ais h id b else outD h id b).bind fun d => (YJ h r).map (d :: ·)
structure Ent where
 heap : Heap
 lent : List (Bool × Nat × Blk)
def yK (n : Nat) : D → Option (AV × Heap × Nat)
 | .sl e t l => some (.sl n, [(n, .rows 0 e t l)], n + 1)
 | d => (lK d).map fun v => (v, [], n)
def mX (n : Nat) : List D → Option (List AV × Heap × Nat)
 | [] => some ([], [], n)
 | d :: r => (yK n d).bind fun (v, h, n) => (mX n r).map fun (vs, h', n) => (v :: vs, h ++ h', n)
def QY (n : Nat) : D → Option (AV × Heap × Nat)
 | .ptr e l => (mX (n + 1) l).map fun (vs, h, m) => (.ptr n 0 0, (n, kZ 0 e vs) :: h, m)
 | d => yK n d
def EW (n : Nat) : List D → Option (List AV × Heap × Nat)
 | [] => some ([], [], n)
 | d :: r => (QY n d).bind fun (v, h, n) => (EW n r).map fun (vs, h', n) => (v :: vs, h ++ h', n)
def uQ (n : Nat) : D → Option (AV × Ent × Nat)
 | .agg l => (mX (n + 1) l).map fun (vs, h, m) => (.agg vs, ⟨h, []⟩, m)
 | .slm e l => (mX (n + 1) l).map fun (vs, h, m) => (.sl n, ⟨(n, .mix 0 e vs) :: h, []⟩, m)
 | .msl e t l => some (.sl n, ⟨[(n, .rows 1 e t l)], [(true, n, .rows 1 e t l)]⟩, n + 1)
 | .mptr e l => (mX (n + 1) l).map fun (vs, h, m) => (.ptr n 0 0, ⟨(n, kZ 1 e vs) :: h, [(false, n, kZ 1 e vs)]⟩, m)
 | .fn f l => (EW (n + 1) l).map fun (vs, h, m) => (.fn f vs, ⟨h, []⟩, m)
 | d => (QY n d).map fun (v, h, m) => (v, ⟨h, []⟩, m)
def entry (n : Nat) : List D → Option (List AV × Ent)
 | [] => some ([], ⟨[], []⟩)
 | d :: r => (uQ n d).bind fun (v, e, m) => bif Nat.ble m (n + 64) then (entry (n + 64) r).map fun (vs, e') => (v :: vs, ⟨e.heap ++ e'.heap, e.lent ++ e'.lent⟩) else none
def acy (P : Program) (fn : Func) (np : Nat) (lent : List (Bool × Nat × Blk)) (st : St) (k : Res → Option α) : Option α :=
 (YJ st.heap lent).bind fun os => CQ P np (GZ st.slots fn.results.toList lent) fn.results.toList (aeL (GZ st.slots fn.results.toList lent) (lent.map (·.2.1))) st fun rs => k ⟨rs, Rq (GZ st.slots fn.results.toList lent) lent os⟩
structure Ctx (α : Type) where
 C : FuncId → List D → (Res → Option α) → Option α
 M : FuncId → List Nat
 eqs : TypeId → Nat → Bool
 lp : Nat → Option (Lp α)
 jt : Nat → Option Tpl
 two : Opt := {}
def Ctx.env (X : Ctx α) (P : Program) (fn : Func) (np : Nat) (lent : List (Bool × Nat × Blk)) : Env α :=
 { P, C := X.C, M := X.M, eqs := X.eqs, lp := X.lp, jt := X.jt, low := np * 64, res := acy P fn np lent, two := X.two }
noncomputable def evFn (P : Program) (X : Ctx α) (f : Func) (args : List D) (k : Res → Option α) : Option α :=
 match f.body with
 | some c => (entry 0 args).bind fun (vs, e) =>
   ev (X.env P f vs.length e.lent) c { slots := vs ++ List.replicate (f.ntmps - vs.length) .undef, heap := e.heap } fun out => match out with
    | .normal st => acy P f vs.length e.lent st k
    | .ret r => k r
    | .exit _ _ => none
 | none => none
end Go.Ev
