/- The evaluator of the framework 'Ev': a pure, memory-free reading of the model's code, in the style of continuations. Definitions alone. -/
import GoSem.Step
import GoSem.ClaimKeys
import Derived.KernelRfl
namespace Go.Ev
inductive Ty where
 | int (k : IntKind) | bool | str | pt | tr | qd | hx
 deriving DecidableEq, Inhabited
@[reducible] def Ty.den : Ty → Type
 | .int _ => Int
 | .bool => Bool
 | .str => ByteArray
 | .pt => Int × Int
 | .tr => Int × Int × Int
 | .qd => Int × Int × Int × Int
 | .hx => Int × Int × Int × Int × Int × Int
def Ty.w : Ty → Nat
 | .pt => 2
 | .tr => 3
 | .qd => 4
 | .hx => 6
 | _ => 1
inductive AV where
 | undef
 | int (k : IntKind) (n : Int)
 | bool (b : Bool)
 | str (s : ByteArray)
 | nilptr
 | ptr (id row col : Nat)
 | nilsl
 | emp
 | sl (id : Nat)
 | sub (id lo n : Nat)
 | agg (l : List AV)
 | tup (l : List AV)
 | fn (f : FuncId) (caps : List AV)
 | map (id : Nat)
 deriving Inhabited
def Ty.enc : (t : Ty) → t.den → List AV
 | .int k, n => [.int k n]
 | .bool, b => [.bool b]
 | .str, s => [.str s]
 | .pt, p => [.int .i64 p.1, .int .i64 p.2]
 | .tr, p => [.int .i64 p.1, .int .i64 p.2.1, .int .i64 p.2.2]
 | .qd, p => [.int .i64 p.1, .int .i64 p.2.1, .int .i64 p.2.2.1, .int .i64 p.2.2.2]
 | .hx, p => [.int .i64 p.1, .int .i64 p.2.1, .int .i64 p.2.2.1, .int .i64 p.2.2.2.1, .int .i64 p.2.2.2.2.1, .int .i64 p.2.2.2.2.2]
def Ty.dec : (t : Ty) → List AV → Option t.den
 | .int k, [.int k' n] => if k = k' then some n else none
 | .bool, [.bool b] => some b
 | .str, [.str s] => some s
 | .pt, [.int .i64 x, .int .i64 y] => some (x, y)
 | .tr, [.int .i64 x, .int .i64 y, .int .i64 z] => some (x, y, z)
 | .qd, [.int .i64 x, .int .i64 y, .int .i64 z, .int .i64 u] => some (x, y, z, u)
 | .hx, [.int .i64 x, .int .i64 y, .int .i64 z, .int .i64 u, .int .i64 v, .int .i64 w] => some (x, y, z, u, v, w)
 | _, _ => none
inductive Blk where
 | rows (mode : Nat) (e : TypeId) (t : Ty) (l : List t.den)
 | mix (mode : Nat) (e : TypeId) (l : List AV)
 | map (e : TypeId) (kt vt : Ty) (ks : List kt.den) (vs : List vt.den)
 | bld (e eb : TypeId) (s : ByteArray)
def Blk.mode : Blk → Nat
 | .rows m _ _ _ => m
 | .mix m _ _ => m
 | .map _ _ _ _ _ => 0
 | .bld _ _ _ => 0
def Blk.e : Blk → TypeId
 | .rows _ e _ _ => e
 | .mix _ e _ => e
 | .map e _ _ _ _ => e
 | .bld e _ _ => e
def Blk.w : Blk → Nat
 | .rows _ _ t _ => t.w
 | .mix _ _ _ => 1
 | .map _ _ _ _ _ => 1
 | .bld _ _ _ => 1
def Blk.n : Blk → Nat
 | .rows _ _ _ l => l.length
 | .mix _ _ l => l.length
 | .map _ _ _ _ _ => 0
 | .bld _ _ _ => 0
def Blk.flat : Blk → List AV
 | .rows _ _ t l => l.flatMap t.enc
 | .mix _ _ l => l
 | .map _ _ _ _ _ => []
 | .bld _ _ _ => []
def Blk.isMap : Blk → Bool
 | .map _ _ _ _ _ => true
 | .bld _ _ _ => true
 | _ => false
def Blk.isBld : Blk → Bool
 | .bld _ _ _ => true
 | _ => false
abbrev Heap := List (Nat × Blk)
structure St where
 slots : List AV
 heap : Heap
inductive D where
 | int (k : IntKind) (n : Int)
 | bool (b : Bool)
 | str (s : ByteArray)
 | agg (l : List D)
 | nilsl
 | sl (e : TypeId) (t : Ty) (l : List t.den)
 | slm (e : TypeId) (l : List D)
 | msl (e : TypeId) (t : Ty) (l : List t.den)
 | nilptr
 | ptr (e : TypeId) (l : List D)
 | mptr (e : TypeId) (l : List D)
 | fn (f : FuncId) (caps : List D)
 | same (i : Nat)
 | keep
 deriving Inhabited
structure Res where
 rs : List D
 outs : List D
inductive Out where
 | normal (st : St)
 | exit (id : Nat) (st : St)
 | ret (r : Res)
def rV (v : Value) : AV :=
 match v with
 | .int k n => .int k n
 | .bool b => .bool b
 | .string s => .str s
 | .pointer a => match a with
   | none => .nilptr
   | some _ => .undef
 | .slice a l c => match a with
   | none => bif Nat.beq l 0 && Nat.beq c 0 then .nilsl else .undef
   | some _ => .undef
 | .func fn first caps => match fn with
   | .func f => match first.toList, caps.toList with
     | [], [] => .fn f []
     | _, _ => .undef
   | _ => .undef
 | _ => .undef
def pK (v : Value) : AV :=
 match v with
 | .agg cs => .agg (cs.toList.map rV)
 | v => rV v
def St.get (st : St) : Operand → AV
 | .tmp t => st.slots.getD t .undef
 | .const v => pK v
 | .func f => .fn f []
 | .global _ => .undef
def St.put (st : St) (dst : Option Tmp) (v : AV) : St :=
 match dst with
 | some d => { st with slots := st.slots.set d v }
 | none => st
def look : Heap → Nat → Option Blk
 | [], _ => none
 | (j, b) :: r, id => bif Nat.beq j id then some b else look r id
def upd : Heap → Nat → Blk → Heap
 | [], id, b => [(id, b)]
 | (j, c) :: r, id, b => bif Nat.beq j id then (id, b) :: r else (j, c) :: upd r id b
def del : Heap → Nat → Heap
 | [], _ => []
 | (j, c) :: r, id => bif Nat.beq j id then del r id else (j, c) :: del r id
mutual
def AV.names (id : Nat) : AV → Bool
 | .ptr j _ _ => Nat.beq j id
 | .sl j => Nat.beq j id
 | .sub j _ _ => Nat.beq j id
 | .agg l => AV.namesAll id l
 | .tup l => AV.namesAll id l
 | .fn _ l => AV.namesAll id l
 | .map j => Nat.beq j id
 | _ => false
def AV.namesAll (id : Nat) : List AV → Bool
 | [] => false
 | x :: r => x.names id || AV.namesAll id r
end
def jw (id : Nat) (v : AV) : AV := bif v.names id then .undef else v
def qQ (id : Nat) : Blk → Blk
 | .mix m e l => .mix m e (l.map (jw id))
 | b => b
def uY (id : Nat) : Heap → Heap
 | [] => []
 | (j, b) :: r => (j, qQ id b) :: uY id r
def St.kill (st : St) (id : Nat) : St :=
 { slots := st.slots.map (jw id), heap := uY id (del st.heap id) }
def St.fresh (st : St) (id : Nat) (b : Blk) : St :=
 { slots := st.slots.map (jw id), heap := uY id (del st.heap id) ++ [(id, b)] }
def Gy : AV → Bool
 | .undef => false
 | .agg _ => false
 | .tup _ => false
 | _ => true
def gz : List AV → Bool
 | [] => true
 | x :: r => Gy x && gz r
def aa3 (k : IntKind) : List AV → Option (List Int)
 | [] => some []
 | .int k' n :: r => if k = k' then (aa3 k r).map (n :: ·) else none
 | _ :: _ => none
def lV (m : Nat) (e : TypeId) (l : List AV) : Blk :=
 match l with
 | .int k n :: r => match aa3 k r with
   | some ns => .rows m e (.int k) (n :: ns)
   | none => .mix m e l
 | _ => .mix m e l
def cellsOf : AV → List AV
 | .agg l => l
 | v => [v]
def aggT (P : Program) (t : TypeId) : Option Bool :=
 match P.underlying t with
 | some (.struct _) => some true
 | some (.array _ _) => some true
 | some _ => some false
 | none => none
def rQ (P : Program) (t : TypeId) : Option AV := (P.info? t).bind fun i => i.zero.map pK
def fV (P : Program) (t : TypeId) : Option Nat := (P.info? t).map (·.size)
def tyOf (P : Program) (t : TypeId) : Option Ty :=
 match rQ P t with
 | some (.int k _) => some (.int k)
 | some (.bool _) => some .bool
 | some (.str _) => some .str
 | some (.agg [.int .i64 _, .int .i64 _]) => some .pt
 | some (.agg [.int .i64 _, .int .i64 _, .int .i64 _]) => some .tr
 | some (.agg [.int .i64 _, .int .i64 _, .int .i64 _, .int .i64 _]) => some .qd
 | some (.agg [.int .i64 _, .int .i64 _, .int .i64 _, .int .i64 _, .int .i64 _, .int .i64 _]) => some .hx
 | _ => none
def UV (t : Ty) : Nat → List AV → Option (List t.den)
 | 0, [] => some []
 | 0, _ :: _ => none
 | n + 1, l => (t.dec (l.take t.w)).bind fun x => (UV t n (l.drop t.w)).map (x :: ·)
variable {α : Type}
def Oy {β : Type} (l : List β) (i : Nat) : (n : Nat) → (List β → Option α) → Option α
 | 0, k => k []
 | n + 1, k => (l[i]?).bind fun x => Oy l (i + 1) n fun r => k (x :: r)
def Blk.read (b : Blk) (row col n : Nat) (k : List AV → Option α) : Option α :=
 match b with
 | .map _ _ _ _ _ => none
 | .bld _ _ _ => none
 | .mix _ _ l => bif Nat.beq col 0 && Nat.ble (row + n) l.length then k ((l.drop row).take n) else none
 | .rows _ _ t l =>
   bif Nat.beq t.w 1 then bif Nat.beq col 0 then Oy l row n fun xs => k (xs.flatMap t.enc) else none
   else bif Nat.ble (col + n) t.w then (l[row]?).bind fun x => k (((t.enc x).drop col).take n)
   else none
def ny {β : Type} (l : List β) (i : Nat) : List β → List β
 | [] => l
 | v :: r => ny (l.set i v) (i + 1) r
def yV (t : Ty) (l : List t.den) (i : Nat) : List AV → (List t.den → Option α) → Option α
 | [], k => k l
 | v :: r, k => (l[i]?).bind fun _ => (t.dec [v]).bind fun x => yV t (l.set i x) (i + 1) r k
def aiN (t : Ty) (x : t.den) (vs : List AV) (i : Nat) : Option t.den := t.dec (ny (t.enc x) i vs)
def acd (t : Ty) (x : t.den) (vs : List AV) : Nat → Bool
 | 0 => true
 | n + 1 => (aiN t x vs n).isSome && acd t x vs n
def selD (t : Ty) (x : t.den) (vs : List AV) (c : Nat) : Nat → t.den
 | 0 => x
 | n + 1 => bif Nat.beq c n then (aiN t x vs n).getD x else selD t x vs c n
def ael (t : Ty) (x : t.den) (col : Nat) (vs : List AV) : Option t.den := bif acd t x vs (t.w + 1 - vs.length) then some (selD t x vs col (t.w + 1 - vs.length)) else none
def QW : List AV → Bool
 | [.nilptr, .nilsl] => true
 | _ => false
def Blk.write (b : Blk) (row col : Nat) (vs : List AV) (k : Blk → Option α) : Option α :=
 bif (Nat.beq b.mode 0 && !b.isBld) || !gz vs then none else
 match b with
 | .map _ _ _ _ _ => none
 | .bld e eb _ => bif Nat.beq row 0 && (Nat.beq col 0 && QW vs) then k (.bld e eb ByteArray.empty) else none
 | .mix m e l => bif Nat.beq col 0 && Nat.ble (row + vs.length) l.length then k (.mix m e (ny l row vs)) else none
 | .rows m e t l =>
   bif Nat.beq t.w 1 then bif Nat.beq col 0 then yV t l row vs fun l' => k (.rows m e t l') else none
   else bif Nat.ble (col + vs.length) t.w then (l[row]?).bind fun x => (ael t x col vs).bind fun y => k (.rows m e t (l.set row y))
   else none
def qj : List AV → List AV → Option Bool
 | [], [] => some true
 | [.int k x], [.int k' y] => if k = k' then some (decide (x = y)) else none
 | .int k x :: r, .int k' y :: s => if k = k' then (qj r s).map fun b => (decide (x = y) && b) else none
 | _, _ => none
def big : Nat := 1099511627776
def abU (P : Program) (eqs : TypeId → Nat → Bool) (t : TypeId) (op : BinOp) (x y : AV) (k : AV → Option α) : Option α :=
 match op, x, y with
 | .shl, .int ka a, .int _ b => bif decide (b < 0) then none else k (.int ka (ka.wrap (a * 2 ^ (min b.toNat ka.bits))))
 | .shr, .int ka a, .int _ b => bif decide (b < 0) then none else k (.int ka (a.fdiv (2 ^ (min b.toNat ka.bits))))
 | op, .int ka a, .int kb b =>
   if ka ≠ kb then none else
   match op with
   | .add => k (.int ka (ka.wrap (a + b)))
   | .sub => k (.int ka (ka.wrap (a - b)))
   | .mul => k (.int ka (ka.wrap (a * b)))
   | .quo => bif decide (b = 0) then none else k (.int ka (ka.wrap (a.tdiv b)))
   | .rem => bif decide (b = 0) then none else k (.int ka (a.tmod b))
   | .and => k (.int ka (ka.wrap (BitVec.ofInt ka.bits a &&& BitVec.ofInt ka.bits b).toNat))
   | .eql => k (.bool (decide (a = b)))
   | .neq => k (.bool (!decide (a = b)))
   | .lss => k (.bool (decide (a < b)))
   | .leq => k (.bool (decide (a ≤ b)))
   | .gtr => k (.bool (decide (b < a)))
   | .geq => k (.bool (decide (b ≤ a)))
   | _ => none
 | .eql, .bool a, .bool b => match P.underlying t with
   | some .bool => k (.bool (a == b))
   | _ => none
 | .neq, .bool a, .bool b => match P.underlying t with
   | some .bool => k (.bool (!(a == b)))
   | _ => none
 | .eql, .str a, .str b => k (.bool (decide (a = b)))
 | .neq, .str a, .str b => k (.bool (!decide (a = b)))
 | .add, .str a, .str b => bif decide (a.size + b.size ≤ big) then k (.str (a ++ b)) else none
 | .eql, .agg a, .agg b => bif eqs t a.length then (qj a b).bind fun r => k (.bool r) else none
 | .neq, .agg a, .agg b => bif eqs t a.length then (qj a b).bind fun r => k (.bool (!r)) else none
 | _, _, _ => none
def evUn (op : UnOp) (x : AV) (k : AV → Option α) : Option α :=
 match op, x with
 | .neg, .int ka a => k (.int ka (ka.wrap (0 - a)))
 | .not, .bool b => k (.bool (!b))
 | _, _ => none
def pX (r i s : Nat) : Nat := bif Nat.beq r 0 then (bif Nat.beq s 1 then i else i * s) else r + i * s
def gJ (dst : Option Tmp) : Nat := (dst.getD 0) * 64
def MV : AV → Option D
 | .int k n => some (.int k n)
 | .bool b => some (.bool b)
 | .str s => some (.str s)
 | .nilsl => some .nilsl
 | .nilptr => some .nilptr
 | _ => none
def pV : List AV → Option (List D)
 | [] => some []
 | x :: r => (MV x).bind fun d => (pV r).map (d :: ·)
def allD (f : AV → Option D) : List AV → Option (List D)
 | [] => some []
 | x :: r => (f x).bind fun d => (allD f r).map (d :: ·)
def memN (i : Nat) : List Nat → Bool
 | [] => false
 | x :: r => Nat.beq x i || memN i r
def toD (ban : List Nat) (h : Heap) : Nat → AV → Option D
 | 0, v => MV v
 | d + 1, v => match v with
   | .agg l => (pV l).map .agg
   | .fn f l => (allD (toD ban h d) l).map (.fn f)
   | .sl id => bif memN id ban then none else (look h id).bind fun b => match b with
     | .rows _ e t l => some (.sl e t l)
     | .mix _ e l => (allD (toD ban h d) l).map (.slm e)
     | .map _ _ _ _ _ => none
     | .bld _ _ _ => none
   | .sub id lo n => bif memN id ban then none else (look h id).bind fun b => match b with
     | .rows _ e t l => some (.sl e t ((l.drop lo).take n))
     | _ => none
   | .ptr id 0 0 => bif memN id ban then none else (look h id).bind fun b => match b with
     | .rows _ e t l => (pV (l.flatMap t.enc)).map (.ptr e)
     | .mix _ e l => (allD (toD ban h d) l).map (.ptr e)
     | .map _ _ _ _ _ => none
     | .bld _ _ _ => none
   | v => MV v
def jX : List Nat → List AV → Option (List Nat)
 | _, [] => some []
 | [], _ :: _ => some []
 | m :: ms, v :: vs => match m with
   | 1 => match v with
     | .sl id => (jX ms vs).map (id :: ·)
     | .ptr id 0 0 => (jX ms vs).map (id :: ·)
     | .nilsl => jX ms vs
     | _ => none
   | _ => jX ms vs
def Wx : List Nat → Bool
 | [] => true
 | x :: r => !memN x r && Wx r
def OW (ban : List Nat) (h : Heap) : AV → Option D
 | .sl id => (look h id).bind fun b => match b with
   | .rows m e t l => bif Nat.beq m 0 then none else some (.msl e t l)
   | _ => none
 | .ptr id 0 0 => (look h id).bind fun b => match b with
   | .rows m e t l => bif Nat.beq m 0 then none else match l with
     | [] => none
     | _ :: _ => (pV (l.flatMap t.enc)).map (.mptr e)
   | .map _ _ _ _ _ => none
   | .bld _ _ _ => none
   | .mix m e l => bif Nat.beq m 0 then none else match l with
     | [] => none
     | _ :: _ => (allD (toD ban h 3) l).map (.mptr e)
 | .nilsl => some .nilsl
 | _ => none
def sZ (ban : List Nat) (h : Heap) : List Nat → List AV → Option (List D)
 | _, [] => some []
 | [], v :: vs => (toD ban h 4 v).bind fun d => (sZ ban h [] vs).map (d :: ·)
 | m :: ms, v :: vs => match m with
   | 1 => (OW ban h v).bind fun d => (sZ ban h ms vs).map (d :: ·)
   | _ => (toD ban h 4 v).bind fun d => (sZ ban h ms vs).map (d :: ·)
def nK : D → Option AV
 | .int k n => some (.int k n)
 | .bool b => some (.bool b)
 | .str s => some (.str s)
 | .nilsl => some .nilsl
 | .nilptr => some .nilptr
 | _ => none
structure Imp where
 st : St
 args : List AV
 acc : List AV
 n : Nat
def Imp.fresh (i : Imp) (b : Blk) : Imp := { st := i.st.fresh i.n b, args := i.args.map (jw i.n), acc := i.acc.map (jw i.n), n := i.n + 1 }
def QJ (i : Imp) (d : D) (k : Imp → AV → Option α) : Option α :=
 match d with
 | .sl e t l => k (i.fresh (.rows 2 e t l)) (.sl i.n)
 | .same j => (i.args[j]?).bind fun x => match x with
   | .sl id => bif Nat.blt id i.n then k i (.sl id) else none
   | _ => none
 | d => (nK d).bind fun v => k i v
def JZ (i : Imp) : List D → (Imp → List AV → Option α) → Option α
 | [], k => k i []
 | d :: r, k => QJ i d fun i v => JZ i r fun i vs => k i (v :: vs)
def imp (i : Imp) (d : D) (k : Imp → AV → Option α) : Option α :=
 match d with
 | .agg l => JZ i l fun i vs => k i (.agg vs)
 | .ptr e l => JZ i l fun i vs => k (i.fresh (lV 2 e vs)) (.ptr i.n 0 0)
 | .same j => (i.args[j]?).bind fun v => k i v
 | d => QJ i d k
def imps (i : Imp) : List D → (Imp → Option α) → Option α
 | [], k => k i
 | d :: r, k => imp i d fun i v => imps { i with acc := i.acc ++ [v] } r k
def nX : List AV → List D → Option (List AV)
 | [], [] => some []
 | v :: vs, d :: ds => match d with
   | .keep => (nX vs ds).map (v :: ·)
   | d => (nK d).bind fun x => (nX vs ds).map (x :: ·)
 | _, _ => none
def upd1 (b : Blk) (d : D) : Option Blk :=
 match b, d with
 | .rows m e t _, .sl _ t' l' => if h' : t' = t then some (.rows m e t (h' ▸ l')) else none
 | .rows m e t l, .ptr _ ds => (nX (l.flatMap t.enc) ds).bind fun vs => bif Nat.beq t.w 1 then (UV t l.length vs).map fun l' => .rows m e t l' else none
 | .mix m e l, .ptr _ ds => (nX l ds).map fun vs => .mix m e vs
 | _, _ => none
def YK (h : Heap) (id : Nat) (d : D) : Option Heap :=
 (look h id).bind fun b => (upd1 b d).map fun b' => upd h id b'
def back : Heap → List Nat → List D → Option Heap
 | h, [], [] => some h
 | h, id :: ids, d :: ds => (YK h id d).bind fun h => back h ids ds
 | _, _, _ => none
def backG : Heap → List Nat → List D → Option Heap
 | h, [], [] => some h
 | h, id :: ids, d :: ds => match d with
   | .nilsl => (look h id).bind fun b => bif Nat.beq b.mode 2 then backG (del h id) ids ds else none
   | d => (YK h id d).bind fun h => backG h ids ds
 | _, _, _ => none
inductive Sk where
 | any
 | lit (k : IntKind) (n : Int)
 | int (k : IntKind)
 | bool
 | str
 | nilptr
 | nilsl
 | emp
 | ptr (id r c : Nat)
 | sl (id : Nat)
 | sub (id : Nat)
 | agg (l : List Sk)
 | tup (l : List Sk)
 | fn (f : FuncId) (l : List Sk)
 | map (id : Nat)
inductive P1 where
 | int (n : Int)
 | bool (b : Bool)
 | str (s : ByteArray)
 | nat (n : Nat)
 | rows (t : Ty) (l : List t.den)
mutual
def BJ : Sk → AV → Option (List P1)
 | .any, _ => some []
 | .lit k n, .int k' m => if k = k' then (if m = n then some [] else none) else none
 | .int k, .int k' n => if k = k' then some [.int n] else none
 | .bool, .bool b => some [.bool b]
 | .str, .str s => some [.str s]
 | .nilptr, .nilptr => some []
 | .nilsl, .nilsl => some []
 | .emp, .emp => some []
 | .ptr i r c, .ptr i' r' c' => bif Nat.beq i i' && (Nat.beq r r' && Nat.beq c c') then some [] else none
 | .sl i, .sl i' => bif Nat.beq i i' then some [] else none
 | .sub i, .sub i' lo n => bif Nat.beq i i' then some [.nat lo, .nat n] else none
 | .agg s, .agg l => SX s l
 | .tup s, .tup l => SX s l
 | .fn f s, .fn f' l => bif Nat.beq f f' then SX s l else none
 | .map i, .map i' => bif Nat.beq i i' then some [] else none
 | _, _ => none
def SX : List Sk → List AV → Option (List P1)
 | [], [] => some []
 | s :: ss, v :: vs => (BJ s v).bind fun p => (SX ss vs).map fun q => p ++ q
 | _, _ => none
end
mutual
def vW : Sk → List P1 → Option (AV × List P1)
 | .any, p => some (.undef, p)
 | .lit k n, p => some (.int k n, p)
 | .int k, .int n :: p => some (.int k n, p)
 | .bool, .bool b :: p => some (.bool b, p)
 | .str, .str s :: p => some (.str s, p)
 | .nilptr, p => some (.nilptr, p)
 | .nilsl, p => some (.nilsl, p)
 | .emp, p => some (.emp, p)
 | .ptr i r c, p => some (.ptr i r c, p)
 | .sl i, p => some (.sl i, p)
 | .sub i, .nat lo :: .nat n :: p => some (.sub i lo n, p)
 | .agg s, p => (LV s p).map fun (l, p) => (.agg l, p)
 | .tup s, p => (LV s p).map fun (l, p) => (.tup l, p)
 | .fn f s, p => (LV s p).map fun (l, p) => (.fn f l, p)
 | .map i, p => some (.map i, p)
 | _, _ => none
def LV : List Sk → List P1 → Option (List AV × List P1)
 | [], p => some ([], p)
 | s :: ss, p => (vW s p).bind fun (v, p) => (LV ss p).map fun (vs, p) => (v :: vs, p)
end
inductive BSk where
 | rows (m : Nat) (e : TypeId) (t : Ty)
 | ints (m : Nat) (e : TypeId) (k : IntKind) (n : Nat)
 | mix (m : Nat) (e : TypeId) (l : List Sk)
 | map (e : TypeId) (kt vt : Ty)
 | bld (e eb : TypeId)
def Zv : Nat → List P1 → Option (List Int × List P1)
 | 0, p => some ([], p)
 | n + 1, .int x :: p => (Zv n p).map fun (l, p) => (x :: l, p)
 | _, _ => none
def uj : BSk → Blk → Option (List P1)
 | .ints m e k n, .rows m' e' (.int k') l => bif Nat.beq m m' && (Nat.beq e e' && Nat.beq l.length n) then (if k = k' then some (List.map P1.int l) else none) else none
 | .rows m e t, .rows m' e' t' l => bif Nat.beq m m' && Nat.beq e e' then (if h : t' = t then some [.rows t (h ▸ l)] else none) else none
 | .mix m e s, .mix m' e' l => bif Nat.beq m m' && Nat.beq e e' then SX s l else none
 | .map e kt vt, .map e' kt' vt' ks vs => bif Nat.beq e e' then (if h : kt' = kt then if h' : vt' = vt then some [.rows kt (h ▸ ks), .rows vt (h' ▸ vs)] else none else none) else none
 | .bld e eb, .bld e' eb' s => bif Nat.beq e e' && Nat.beq eb eb' then some [.str s] else none
 | _, _ => none
def ZY : BSk → List P1 → Option (Blk × List P1)
 | .ints m e k n, p => (Zv n p).map fun (l, p) => (.rows m e (.int k) l, p)
 | .rows m e t, .rows t' l :: p => if h : t' = t then some (.rows m e t (h ▸ l), p) else none
 | .mix m e s, p => (LV s p).map fun (l, p) => (.mix m e l, p)
 | .map e kt vt, .rows kt' ks :: .rows vt' vs :: p => if h : kt' = kt then if h' : vt' = vt then some (.map e kt vt (h ▸ ks) (h' ▸ vs), p) else none else none
 | .bld e eb, .str s :: p => some (.bld e eb s, p)
 | _, _ => none
structure Tpl where
 slots : List Sk
 heap : List (Nat × BSk)
 prep : List (Nat × Nat × TypeId × Ty) := []
 peel : Bool := false
mutual
def uk (B A : Nat) : AV → AV
 | .ptr j r c => .ptr (bif Nat.beq j B then A else j) r c
 | .sl j => .sl (bif Nat.beq j B then A else j)
 | .sub j lo n => .sub (bif Nat.beq j B then A else j) lo n
 | .agg l => .agg (JW B A l)
 | .tup l => .tup (JW B A l)
 | .fn f l => .fn f (JW B A l)
 | .map j => .map (bif Nat.beq j B then A else j)
 | v => v
def JW (B A : Nat) : List AV → List AV
 | [] => []
 | v :: r => uk B A v :: JW B A r
end
def GY (B A : Nat) : Blk → Blk
 | .mix m e l => .mix m e (JW B A l)
 | b => b
def abf (B A : Nat) : Heap → Heap
 | [] => []
 | (j, b) :: r => (bif Nat.beq j B then A else j, GY B A b) :: abf B A r
def St.rename (st : St) (B A : Nat) : St := ⟨JW B A (st.slots.map (jw A)), abf B A (uY A (del st.heap A))⟩
def St.trim (st : St) (j B n : Nat) (e : TypeId) (t : Ty) (l : List t.den) : St := (st.fresh B (.rows 2 e t (l.take n))).put (some j) (.sl B)
def aiO (low : Nat) (p : Nat × Nat × TypeId × Ty) (st : St) : St :=
 match st.slots.getD p.1 .undef with
 | .nilsl => bif Nat.ble low p.2.1 then (st.fresh p.2.1 (.rows 2 p.2.2.1 p.2.2.2 [])).put (some p.1) (.sl p.2.1) else st
 | .emp => bif Nat.ble low p.2.1 then (st.fresh p.2.1 (.rows 2 p.2.2.1 p.2.2.2 [])).put (some p.1) (.sl p.2.1) else st
 | .sl B => bif Nat.beq B p.2.1 then st else bif Nat.ble low p.2.1 && Nat.ble low B then st.rename B p.2.1 else st
 | .sub B 0 n => bif Nat.ble low p.2.1 && Nat.ble low B then (match look st.heap B with
    | some (.rows m e t l) => bif Nat.beq m 2 then (bif Nat.beq B p.2.1 then st.trim p.1 B n e t l else (st.trim p.1 B n e t l).rename B p.2.1) else st
    | _ => st) else st
 | _ => st
def ac7 (low : Nat) : List (Nat × Nat × TypeId × Ty) → St → St
 | [], st => st
 | p :: r, st => ac7 low r (aiO low p st)
def aex (h : Heap) : List (Nat × BSk) → Option (List P1)
 | [] => some []
 | (i, b) :: r => (look h i).bind fun x => (uj b x).bind fun p => (aex h r).map fun q => p ++ q
def acu : List (Nat × BSk) → List P1 → Option (Heap × List P1)
 | [], p => some ([], p)
 | (i, b) :: r, p => (ZY b p).bind fun (x, p) => (acu r p).map fun (h, p) => ((i, x) :: h, p)
def Tpl.take0 (t : Tpl) (st : St) : Option (List P1) := (SX t.slots st.slots).bind fun p => (aex st.heap t.heap).map fun q => p ++ q
def Tpl.take (low : Nat) (t : Tpl) (st : St) : Option (List P1) := t.take0 (ac7 low t.prep st)
def Tpl.build (t : Tpl) (p : List P1) : Option St :=
 (LV t.slots p).bind fun (s, p) => (acu t.heap p).bind fun (h, p) => match p with
   | [] => some ⟨s, h⟩
   | _ :: _ => none
structure Opt where
 two : Bool := false
 bm : FuncId → Nat := fun _ => 0
 T : TypeId := 0
 eb : TypeId := 0
def o0 : Opt := {}
def o1 : Opt := { two := true }
structure Lp (α : Type) where
 tpl : Tpl
 run : List P1 → (Nat → List P1 → Option α) → (Res → Option α) → Option α
structure Env (α : Type) where
 P : Program
 C : FuncId → List D → (Res → Option α) → Option α
 M : FuncId → List Nat
 eqs : TypeId → Nat → Bool
 lp : Nat → Option (Lp α)
 jt : Nat → Option Tpl
 low : Nat
 res : St → (Res → Option α) → Option α
 two : Opt := {}
def tJ (E : Env α) (dst : Option Tmp) (k : Nat → Option α) : Option α := bif Nat.ble E.low (gJ dst) then k (gJ dst) else none
def Vz : List AV → AV
 | [v] => v
 | vs => .tup vs
def agR (E : Env α) (dst : Option Tmp) (f : AV) (args : List AV) (st : St) (k : St → Option α) : Option α :=
 match f with
 | .fn g caps =>
   (jX (E.M g) (args ++ caps)).bind fun ids => bif Wx ids then
     (sZ ids st.heap (E.M g) (args ++ caps)).bind fun ds =>
     E.C g ds fun r =>
      (backG st.heap ids r.outs).bind fun h =>
      tJ E dst fun id => imps ⟨{ st with heap := h }, args ++ caps, [], id⟩ r.rs fun i => k (i.st.put dst (Vz i.acc))
   else none
 | _ => none
def bldT (P : Program) (t : TypeId) : Option TypeId :=
 match P.underlying t with
 | some (.struct fs) => match fs.toList with
   | [f, g] => match P.underlying f.type, P.underlying g.type with
     | some (.pointer t'), some (.slice eb) => bif Nat.beq t t' then some eb else none
     | _, _ => none
   | _ => none
 | _ => none
def abp (P : Program) (t : TypeId) (l : List AV) : Blk := match bldT P t with
 | some eb => bif QW l then .bld t eb ByteArray.empty else lV 2 t l
 | none => lV 2 t l
def aew (eb : TypeId) (id : Nat) : Heap → Bool
 | [] => true
 | (j, b) :: r => (Nat.beq j id || !(b.isBld || (Nat.beq b.mode 2 && Nat.beq b.e eb))) && aew eb id r
def aiy (O : Opt) (m : Nat) (dst : Option Tmp) (args : List AV) (st : St) (k : St → Option α) : Option α :=
 match args with
 | .ptr id 0 0 :: r => (look st.heap id).bind fun b => match b with
   | .bld e eb t => bif Nat.beq e O.T && (Nat.beq eb O.eb && aew eb id st.heap) then (match r with
     | [.str s] => bif Nat.beq m 1 && decide (t.size + s.size ≤ big) then k ({ st with heap := upd st.heap id (.bld e eb (t ++ s)) }.put dst (.tup [.int .i64 s.size, .undef])) else none
     | [] => bif Nat.beq m 2 then k ({ st with heap := upd st.heap id (.bld e eb t) }.put dst (.str t)) else bif Nat.beq m 3 then k (st.put dst (.int .i64 t.size)) else none
     | _ => none) else none
   | _ => none
 | _ => none
def LY (h : Heap) (t : Ty) : AV → Option (List t.den)
 | .sl id => (look h id).bind fun b => match b with
   | .rows _ _ t' l => if h : t' = t then some (h ▸ l) else none
   | _ => none
 | .sub id lo n => (look h id).bind fun b => match b with
   | .rows _ _ t' l => if h : t' = t then some (((h ▸ l : List t.den).drop lo).take n) else none
   | _ => none
 | .nilsl => some []
 | .emp => some []
 | _ => none
def vk (P : Program) (e : TypeId) : Bool :=
 match P.info? e with
 | some i => Nat.ble i.bytes 128
 | none => false
def abZ (E : Env α) (T : TypeId) (dst : Option Tmp) (s x : AV) (st : St) (k : St → Option α) : Option α :=
 match E.P.underlying T with
 | some (.slice e) => (tyOf E.P e).bind fun t => bif vk E.P e then (fV E.P e).bind fun sz => bif Nat.beq sz t.w then (LY st.heap t x).bind fun xs =>
   match s with
   | .sl id => (look st.heap id).bind fun b => match b with
     | .rows m e' t' l => bif Nat.beq m 2 && Nat.beq e e' then (if h : t' = t then
        bif decide (l.length + xs.length ≤ big) then k ((st.fresh id (.rows 2 e t ((h ▸ l : List t.den) ++ xs))).put dst (.sl id)) else none
       else none) else none
     | _ => none
   | .sub id 0 n => (look st.heap id).bind fun b => match b with
     | .rows m e' t' l => bif Nat.beq m 2 && Nat.beq e e' then (if h : t' = t then
        bif decide (n + xs.length ≤ big) then k ((st.fresh id (.rows 2 e t ((h ▸ l : List t.den).take n ++ xs))).put dst (.sl id)) else none
       else none) else none
     | _ => none
   | .nilsl | .emp => bif decide (xs.length ≤ big) then tJ E dst fun id => k ((st.fresh id (.rows 2 e t xs)).put dst (.sl id)) else none
   | _ => none
   else none else none
 | _ => none
def aaF (E : Env α) (T : TypeId) (dst : Option Tmp) (s x : AV) (st : St) (k : St → Option α) : Option α :=
 match E.P.underlying T with
 | some (.slice e) => (tyOf E.P e).bind fun t => (rQ E.P e).bind fun z => (t.dec (cellsOf z)).bind fun d => bif vk E.P e then (fV E.P e).bind fun sz => bif Nat.beq sz t.w then
   match s, x with
   | .nilsl, .int .i64 n | .emp, .int .i64 n => bif decide (1 ≤ n) && decide (n ≤ (big : Int)) then tJ E dst fun id => k ((st.fresh id (.rows 2 e t (List.replicate n.toNat d))).put dst (.sl id)) else none
   | _, _ => none
   else none else none
 | _ => none
def FV (h : Heap) : AV → Option Nat
 | .sl id => (look h id).map Blk.n
 | .sub _ _ n => some n
 | .nilsl => some 0
 | .emp => some 0
 | .str s => some s.size
 | _ => none
def EQ (f : Int → Int → Int) (ka : IntKind) (x : Int) : List AV → (AV → Option α) → Option α
 | [], k => k (.int ka x)
 | .int kb y :: r, k => if ka = kb then EQ f ka (f x y) r k else none
 | _ :: _, _ => none
def Jz (E : Env α) (dst : Option Tmp) (b : Builtin) (ts : List TypeId) (args : List AV) (st : St) (k : St → Option α) : Option α :=
 match b, args with
 | .len, [x] => match ts with
   | [t] => match E.P.underlying t, x with
     | some (.slice _), .str _ => none
     | some .string, .str s => k (st.put dst (.int .i64 s.size))
     | some (.slice _), x => (FV st.heap x).bind fun n => k (st.put dst (.int .i64 n))
     | _, _ => none
   | _ => none
 | .cap, [x] => match ts with
   | [t] => match E.P.underlying t, x with
     | some (.slice _), .nilsl => k (st.put dst (.int .i64 0))
     | some (.slice _), .emp => k (st.put dst (.int .i64 0))
     | _, _ => none
   | _ => none
 | .append, [s, x] => match ts with
   | [t, u] => match E.P.underlying u with
     | some (.slice _) => abZ E t dst s x st k
     | some (.int _) => aaF E t dst s x st k
     | _ => none
   | _ => none
 | .max, .int ka x :: r => EQ max ka x r fun v => k (st.put dst v)
 | .min, .int ka x :: r => EQ min ka x r fun v => k (st.put dst v)
 | .clear, [.sub id lo n] => match ts with
   | [T] => match E.P.underlying T with
     | some (.slice e) => (look st.heap id).bind fun b => match b with
       | .rows m e' t l => (rQ E.P e).bind fun z => (t.dec (cellsOf z)).bind fun d => bif !Nat.beq m 0 && Nat.beq e e' then k ({ st with heap := upd st.heap id (.rows m e' t (l.take lo ++ List.replicate n d ++ l.drop (lo + n))) }.put dst (.tup [])) else none
       | _ => none
     | _ => none
   | _ => none
 | _, _ => none
def mW (v : Option AV) (dflt high : Nat) (k : Nat → Option α) : Option α :=
 match v with
 | none => k dflt
 | some (.int _ n) => bif decide (0 ≤ n) && decide (n ≤ (high : Int)) then k n.toNat else none
 | some _ => none
def FZ (P : Program) (T : TypeId) (x : AV) (lo hi mx : Option AV) (h : Heap) (v : AV → Option α) : Option α :=
 match P.underlying T, mx with
 | some .string, none => match x with
   | .str s => mW hi s.size s.size fun h => mW lo 0 h fun l => v (.str (s.extract l h))
   | _ => none
 | some (.slice e), none => match x with
   | .sl id => (look h id).bind fun b => (fV P e).bind fun s => bif Nat.beq s b.w then mW hi b.n b.n fun h => mW lo 0 h fun l => v (.sub id l (h - l)) else none
   | .sub id a n => (look h id).bind fun b => (fV P e).bind fun s => bif Nat.beq s b.w then mW hi n n fun h => mW lo 0 h fun l => v (.sub id (pX a l 1) (h - l)) else none
   | .nilsl => (fV P e).bind fun _ => mW hi 0 0 fun h => mW lo 0 h fun _ => v .nilsl
   | .emp => (fV P e).bind fun _ => mW hi 0 0 fun h => mW lo 0 h fun _ => v .emp
   | _ => none
 | some (.slice e), some (.int _ 0) => (fV P e).bind fun _ => match x, lo, hi with
   | .sl _, some (.int _ 0), some (.int _ 0) => v .emp
   | .sub _ _ _, some (.int _ 0), some (.int _ 0) => v .emp
   | .nilsl, some (.int _ 0), some (.int _ 0) => v .emp
   | _, _, _ => none
 | _, _ => none
def ac3 (P : Program) (T : TypeId) (dst : Option Tmp) (x : AV) (lo hi mx : Option AV) (st : St) (k : St → Option α) : Option α := FZ P T x lo hi mx st.heap fun v => k (st.put dst v)
def aan (place : Nat → Option (Nat × Nat)) (cells : List AV) : List (Nat × AV) → Option (List AV)
 | [] => some cells
 | (i, v) :: r => (place i).bind fun (off, size) => bif gz (cellsOf v) && (Nat.beq (cellsOf v).length size && Nat.ble (off + size) cells.length) then aan place (ny cells off (cellsOf v)) r else none
def Gx (z : List AV) : Nat → List AV
 | 0 => []
 | n + 1 => z ++ Gx z n
def adi (P : Program) (fs : List Field) (i : Nat) : Option (Nat × Nat) := (fs[i]?).bind fun f => (fV P f.type).map fun n => (f.offset, n)
def aaw (P : Program) : List Field → Bool
 | [] => true
 | f :: r => (match fV P f.type with
   | some _ => true
   | none => false) && aaw P r
def acZ (P : Program) (t : TypeId) (parts : List (Nat × AV)) : Option AV :=
 (rQ P t).bind fun z => match P.underlying t with
   | some (.struct fs) => bif aaw P fs.toList then (aan (adi P fs.toList) (cellsOf z) parts).map .agg else none
   | some (.array _ e) => (fV P e).bind fun s => (aan (fun i => some (i * s, s)) (cellsOf z) parts).map .agg
   | _ => none
def agD (P : Program) (e : TypeId) (s len : Nat) (cells : List AV) : Option Blk :=
 match tyOf P e with
 | some t => bif Nat.beq t.w s then (UV t len cells).map fun l => .rows 2 e t l else none
 | none => bif gz cells && (Nat.beq cells.length len && Nat.beq s 1) then some (.mix 2 e cells) else none
def RZ (P : Program) (T : TypeId) (len : Nat) (parts : List (Nat × AV)) : Option Blk :=
 match P.underlying T with
 | some (.slice e) => (fV P e).bind fun s => bif Nat.ble (len * s) 4096 then (rQ P e).bind fun z => bif gz (cellsOf z) && Nat.beq (cellsOf z).length s then
    (aan (fun i => some (i * s, s)) (Gx (cellsOf z) len) parts).bind fun cells => agD P e s len cells
   else none else none
 | _ => none
def Vq (cs : List AV) (k : AV → Option α) : Option α :=
 match cs with
 | [x] => k x
 | _ => none
def zK : (t : Ty) → t.den → AV
 | .int k, n => .int k n
 | .bool, b => .bool b
 | .str, s => .str s
 | .pt, p => .agg (Ty.enc .pt p)
 | .tr, p => .agg (Ty.enc .tr p)
 | .qd, p => .agg (Ty.enc .qd p)
 | .hx, p => .agg (Ty.enc .hx p)
def Rx (t : Ty) (x : AV) : Option t.den := match x with
 | .agg l => bif Nat.beq t.w 1 then none else t.dec l
 | x => bif Nat.beq t.w 1 then t.dec [x] else none
def Aw : (t : Ty) → t.den → t.den → Bool
 | .int _, x, y => decide (x = y)
 | .bool, x, y => x == y
 | .str, x, y => decide (x = y)
 | .pt, x, y => decide (x.1 = y.1) && decide (x.2 = y.2)
 | .tr, x, y => decide (x.1 = y.1) && (decide (x.2.1 = y.2.1) && decide (x.2.2 = y.2.2))
 | .qd, x, y => decide (x.1 = y.1) && (decide (x.2.1 = y.2.1) && (decide (x.2.2.1 = y.2.2.1) && decide (x.2.2.2 = y.2.2.2)))
 | .hx, x, y => decide (x.1 = y.1) && (decide (x.2.1 = y.2.1) && (decide (x.2.2.1 = y.2.2.1) && (decide (x.2.2.2.1 = y.2.2.2.1) && (decide (x.2.2.2.2.1 = y.2.2.2.2.1) && decide (x.2.2.2.2.2 = y.2.2.2.2.2)))))
def getM (kt vt : Ty) : List kt.den → List vt.den → kt.den → vt.den → vt.den
 | x :: ks, v :: vs, k, d => bif Aw kt k x then v else getM kt vt ks vs k d
 | _, _, _, d => d
def putK (kt : Ty) : List kt.den → kt.den → List kt.den
 | [], k => [k]
 | x :: ks, k => bif Aw kt k x then x :: ks else x :: putK kt ks k
def putV (kt vt : Ty) : List kt.den → List vt.den → kt.den → vt.den → List vt.den
 | x :: ks, u :: vs, k, v => bif Aw kt k x then v :: vs else u :: putV kt vt ks vs k v
 | _, _, _, v => [v]
def ZQ (P : Program) (w : Nat) : List Field → Bool
 | [] => true
 | f :: r => P.plainKey f.type && Nat.blt f.offset w && ZQ P w r
def Vy (P : Program) (eqs : TypeId → Nat → Bool) (t : TypeId) (K : Ty) : Bool := match K with
 | .int k => match P.underlying t with
   | some (.int k') => decide (k = k')
   | _ => false
 | .bool => false
 | .str => false
 | _ => eqs t K.w && match P.underlying t with
   | some (.struct fs) => ZQ P K.w fs.toList
   | _ => false
def acj : Operand → Operand → Bool
 | .tmp i, .tmp j => Nat.beq i j
 | .const (.int .i64 (.ofNat m)), .const (.int .i64 (.ofNat n)) => Nat.beq m n
 | _, _ => false
def evOp (E : Env α) (o : Oper) (st : St) (k : St → Option α) : Option α :=
 let v (x : AV) : Option α := k (st.put o.dst x)
 match o.op with
 | .move x | .assign x => v (st.get x)
 | .nilCheck x => match st.get x with
   | .ptr id r c => v (.ptr id r c)
   | _ => none
 | .pick c a b => match st.get c with
   | .bool t => bif t then v (st.get a) else v (st.get b)
   | _ => none
 | .alloc t => (rQ E.P t).bind fun z => bif gz (cellsOf z) then tJ E o.dst fun id => bif AV.namesAll id (cellsOf z) then none else k ((st.fresh id (abp E.P t (cellsOf z))).put o.dst (.ptr id 0 0)) else none
 | .box t x => bif gz (cellsOf (st.get x)) then tJ E o.dst fun id => bif AV.namesAll id (cellsOf (st.get x)) then none else k ((st.fresh id (lV 2 t (cellsOf (st.get x)))).put o.dst (.ptr id 0 0)) else none
 | .build t parts => (acZ E.P t (parts.toList.map fun (i, x) => (i, st.get x))).bind v
 | .buildSlice t len parts => (RZ E.P t len (parts.toList.map fun (i, x) => (i, st.get x))).bind fun b =>
    tJ E o.dst fun id => bif AV.namesAll id b.flat then none else k ((st.fresh id b).put o.dst (.sl id))
 | .makeSlice t l c => match E.P.underlying t, st.get l with
   | some (.slice e), .int .i64 n => (tyOf E.P e).bind fun ty => (rQ E.P e).bind fun z => (ty.dec (cellsOf z)).bind fun x => (fV E.P e).bind fun sz =>
      bif Nat.beq sz ty.w && (vk E.P e && acj l c) then
      bif decide (0 ≤ n) && decide (n ≤ (big : Int)) then tJ E o.dst fun id => k ((st.fresh id (.rows 2 e ty (List.replicate n.toNat x))).put o.dst (.sl id)) else none
      else none
   | _, _ => none
 | .load t a => match st.get a with
   | .ptr id r c => (look st.heap id).bind fun b => (fV E.P t).bind fun n => (aggT E.P t).bind fun ag =>
     b.read r c n fun cs => bif ag then v (.agg cs) else Vq cs v
   | _ => none
 | .store t a x => match st.get a with
   | .ptr id r c => (look st.heap id).bind fun b => (fV E.P t).bind fun n =>
     bif Nat.beq (cellsOf (st.get x)).length n then b.write r c (cellsOf (st.get x)) fun b' => k ({ st with heap := upd st.heap id b' }.put o.dst .undef) else none
   | _ => none
 | .binOp op t x y _ => abU E.P E.eqs t op (st.get x) (st.get y) v
 | .unOp op _ x => evUn op (st.get x) v
 | .convert s d x => match E.P.underlying s, E.P.underlying d, st.get x with
   | some _, some (.int k), .int _ n => v (.int k (k.wrap n))
   | some _, some .string, .str s => v (.str s)
   | _, _, _ => none
 | .fieldAddr s x f => match E.P.underlying s, st.get x with
   | some (.struct fs), .ptr id r c => (fs[f]?).bind fun fd => (fV E.P fd.type).bind fun n => bif Nat.beq n 0 then none else (look st.heap id).bind fun b =>
     bif Nat.beq b.w 1 then v (.ptr id (pX r fd.offset 1) c) else v (.ptr id r (pX c fd.offset 1))
   | _, _ => none
 | .field t x f => match E.P.underlying t, st.get x with
   | some (.struct fs), .agg l => (fs[f]?).bind fun fd => (fV E.P fd.type).bind fun n => (aggT E.P fd.type).bind fun ag =>
     bif ag then v (.agg ((l.drop fd.offset).take n)) else (l[fd.offset]?).bind v
   | _, _ => none
 | .indexAddr t x i => match E.P.underlying t, st.get x, st.get i with
   | some (.array len e), .ptr id r c, .int _ n => (fV E.P e).bind fun s => (look st.heap id).bind fun b =>
     bif decide (0 ≤ n) && decide (n < (len : Int)) then bif Nat.beq b.w 1 then v (.ptr id (pX r n.toNat s) c) else v (.ptr id r (pX c n.toNat s))
     else none
   | some (.slice e), .sl id, .int _ n => (fV E.P e).bind fun s => (look st.heap id).bind fun b =>
     bif Nat.beq s b.w then bif decide (0 ≤ n) && decide (n < (b.n : Int)) then v (.ptr id n.toNat 0) else none else none
   | some (.slice e), .sub id lo m, .int _ n => (fV E.P e).bind fun s => (look st.heap id).bind fun b =>
     bif Nat.beq s b.w then bif decide (0 ≤ n) && decide (n < (m : Int)) then v (.ptr id (pX lo n.toNat 1) 0) else none else none
   | _, _, _ => none
 | .index t x i => match E.P.underlying t, st.get x, st.get i with
   | some .string, .str s, .int _ n => bif decide (0 ≤ n) then (s.data.toList[n.toNat]?).bind fun c => v (.int .u8 c.toNat) else none
   | some (.array len e), .agg l, .int _ n => (fV E.P e).bind fun s => (aggT E.P e).bind fun ag =>
     bif decide (0 ≤ n) && decide (n < (len : Int)) then bif ag then v (.agg ((l.drop (pX 0 n.toNat s)).take s)) else (l[pX 0 n.toNat s]?).bind v
     else none
   | _, _, _ => none
 | .slice t x lo hi mx => ac3 E.P t o.dst (st.get x) (lo.map st.get) (hi.map st.get) (mx.map st.get) st k
 | .extract x i => match st.get x with
   | .tup l => (l[i]?).bind v
   | _ => none
 | .makeMap t r => match r, E.P.underlying t with
   | none, some (.map kt et) => (tyOf E.P kt).bind fun K => (tyOf E.P et).bind fun V => tJ E o.dst fun id => k ((st.fresh id (.map t K V [] [])).put o.dst (.map id))
   | _, _ => none
 | .lookup t x i ok => bif ok then none else match E.P.underlying t, st.get x with
   | some (.map kt et), .map id => (look st.heap id).bind fun b => match b with
     | .map _ K V ks vs => (rQ E.P et).bind fun z => (Rx V z).bind fun d => (Rx K (st.get i)).bind fun key =>
       bif Vy E.P E.eqs kt K then v (zK V (getM K V ks vs key d)) else none
     | _ => none
   | _, _ => none
 | .mapUpdate t x i y => match E.P.underlying t, st.get x with
   | some (.map kt _), .map id => (look st.heap id).bind fun b => match b with
     | .map e K V ks vs => (Rx V (st.get y)).bind fun u => (Rx K (st.get i)).bind fun key =>
       bif Vy E.P E.eqs kt K then k ({ st with heap := upd st.heap id (.map e K V (putK K ks key) (putV K V ks vs key u)) }.put o.dst .undef) else none
     | _ => none
   | _, _ => none
 | .makeFunc fn first caps => match fn, first.toList with
   | .func f, [] => v (.fn f (caps.toList.map st.get))
   | _, _ => none
 | .call c => match c.callee with
   | .value f => agR E o.dst (st.get f) (c.args.toList.map st.get) st k
   | .builtin b => Jz E o.dst b c.argTypes.toList (c.args.toList.map st.get) st k
   | .invoke _ _ => none
 | _ => none
def Qx (ops : Array Oper) (j : Nat) (st : St) : Option (Nat × Bool) :=
 ((ops[j]?).bind (·.dst)).bind fun d => match st.slots.getD d .undef with
   | .bool b => some (d, b)
   | _ => none
def Wq (ops : Array Oper) (j : Nat) (st : St) : Bool :=
 match (ops[j]?).bind (·.dst) with
 | some d => match st.slots.getD d .undef with
   | .tup l => match l with
     | [] => true
     | _ :: _ => false
   | _ => false
 | none => false
noncomputable def both (a b : Option α) : Option α := @ite _ (a = b) (Classical.propDecidable _) a none
noncomputable def ad2 (two : Bool) (k : Bool → Option α) : Option α := bif two then both (k true) (k false) else none
noncomputable def afY (two : Bool) (h : Heap) (x : AV) (k : Bool → Option α) : Option α := match x with
 | .nilsl => k true
 | .emp => ad2 two k
 | .sl id => (look h id).bind fun b => bif Nat.beq b.n 0 then ad2 two k else k false
 | .sub _ _ n => bif Nat.beq n 0 then ad2 two k else k false
 | _ => none
noncomputable def aeB (E : Env α) (o : Oper) (st : St) (k : St → Option α) : Option α := match o.op with
 | .binOp op t x y _ => match st.get y with
   | .nilsl => match E.P.underlying t, op with
     | some (.slice _), .eql => afY E.two.two st.heap (st.get x) fun b => k (st.put o.dst (.bool b))
     | some (.slice _), .neq => afY E.two.two st.heap (st.get x) fun b => k (st.put o.dst (.bool (!b)))
     | _, _ => none
   | _ => evOp E o st k
 | .call c => match c.callee with
   | .value f => match f with
     | .func g => bif Nat.beq (E.two.bm g) 0 then evOp E o st k else aiy E.two (E.two.bm g) o.dst (c.args.toList.map st.get) st k
     | _ => evOp E o st k
   | _ => evOp E o st k
 | _ => evOp E o st k
noncomputable def Vj (E : Env α) (ops : Array Oper) : List Oper → St → (St → Option α) → Option α
 | [], st, k => k st
 | o :: rest, st, k =>
   match o.guard with
   | none => aeB E o st fun st => Vj E ops rest st k
   | some (j, want) => match Qx ops j st with
     | some (d, b) =>
       bif b then
        (bif want then aeB E o (st.put (some d) (.bool true)) fun st => Vj E ops rest st k else Vj E ops rest ((st.put (some d) (.bool true)).put o.dst (.tup [])) k)
       else
        (bif want then Vj E ops rest ((st.put (some d) (.bool false)).put o.dst (.tup [])) k else aeB E o (st.put (some d) (.bool false)) fun st => Vj E ops rest st k)
     | none => bif Wq ops j st then Vj E ops rest (st.put o.dst (.tup [])) k else none
def tq : Op → Bool
 | .move _ => true
 | .nilCheck _ => true
 | .slice _ _ _ _ _ => true
 | .build _ _ => true
 | .assign _ => true
 | .load _ _ => true
 | .binOp _ _ _ _ _ => true
 | .unOp _ _ _ => true
 | .convert _ _ _ => true
 | .fieldAddr _ _ _ => true
 | .field _ _ _ => true
 | .indexAddr _ _ _ => true
 | .index _ _ _ => true
 | .extract _ _ => true
 | .pick _ _ _ => true
 | .call c => match c.callee with
   | .builtin .len => true
   | .builtin .max => true
   | .builtin .min => true
   | _ => false
 | _ => false
def Dy : Op → Bool
 | .call c => match c.callee with
   | .value _ => true
   | _ => false
 | _ => false
def lw : List Operand → List Nat
 | [] => []
 | .tmp t :: r => t :: lw r
 | _ :: r => lw r
def vz (ops : Array Oper) (o : Oper) : List Nat :=
 match o.guard with
 | none => []
 | some (j, _) => match (ops[j]?).bind (·.dst) with
   | some d => [d]
   | none => []
def lY : Op → Bool
 | .alloc _ => true
 | .box _ _ => true
 | .buildSlice _ _ _ => true
 | .makeSlice _ _ _ => true
 | _ => false
def abM : Op → Bool
 | .call c => match c.callee with
   | .builtin b => match b with
     | .append => true
     | _ => false
   | _ => false
 | _ => false
def rq (o : Op) : Bool := tq o || lY o
def qw (o : Op) : Bool := lY o || Dy o
def Gz (ops : Array Oper) (a b : Oper) : Bool := (rq a.op && rq b.op) && (match a.dst, b.dst with
 | some x, some y => !Nat.beq x y && (!memN x (lw b.op.operands.toList ++ vz ops b) && !memN y (lw a.op.operands.toList ++ vz ops a))
 | _, _ => false)
def gq : Op → Bool
 | .move _ => true
 | .nilCheck _ => true
 | .build _ _ => true
 | .assign _ => true
 | .pick _ _ _ => true
 | .binOp _ _ _ _ _ => true
 | .unOp _ _ _ => true
 | .convert _ _ _ => true
 | .field _ _ _ => true
 | .index _ _ _ => true
 | .extract _ _ => true
 | .call c => match c.callee with
   | .builtin .max => true
   | .builtin .min => true
   | _ => false
 | _ => false
def nZ : Op → Bool
 | .slice _ _ _ _ _ => true
 | .fieldAddr _ _ _ => true
 | .indexAddr _ _ _ => true
 | .call c => match c.callee with
   | .builtin .len => true
   | _ => false
 | _ => false
def zW : List Edge → List Nat
 | [] => []
 | e :: r => bif Region.binds .any e then e.on :: zW r else zW r
def subN : List Nat → List Nat → Bool
 | [], _ => true
 | x :: r, l => memN x l && subN r l
def aeA (ops : Array Oper) (done : List Nat) (i : Nat) : Bool := !memN i done && (match ops[i]? with
 | some o => subN (zW o.after.toList) done
 | none => false)
def af8 (p : Nat → Bool) : Nat → Nat → Option Nat
 | _, 0 => none
 | i, n + 1 => bif p i then some i else af8 p (i + 1) n
def anU (ops : Array Oper) (i : Nat) : Bool := match ops[i]? with
 | some o => rq o.op
 | none => false
def OQ (ops : Array Oper) : Nat → List Nat → List Nat
 | 0, done => done.reverse
 | n + 1, done => match af8 (fun i => aeA ops done i && anU ops i) 0 ops.size with
   | some i => OQ ops n (i :: done)
   | none => match af8 (aeA ops done) 0 ops.size with
     | some i => OQ ops n (i :: done)
     | none => done.reverse
def WQ : List (Nat × List Nat) → Nat → List Nat
 | [], _ => []
 | (j, l) :: r, i => bif Nat.beq j i then l else WQ r i
def acS : List Nat → List Nat → List Nat
 | [], l => l
 | x :: r, l => bif memN x l then acS r l else acS r (x :: l)
def PK (t : List (Nat × List Nat)) : List Nat → List Nat
 | [] => []
 | e :: r => acS (e :: WQ t e) (PK t r)
def aa0 (ops : Array Oper) : Nat → Nat → List (Nat × List Nat) → List (Nat × List Nat)
 | 0, _, t => t
 | n + 1, i, t => aa0 ops n (i + 1) ((i, PK t (match ops[i]? with
   | some o => zW o.after.toList
   | none => [])) :: t)
def Zk (anc : List Nat) : Nat → List Oper → List Nat
 | _, [] => []
 | j, o :: r => match o.op with
   | .load _ x => match x with
     | .tmp s => bif memN j anc then Zk anc (j + 1) r else s :: Zk anc (j + 1) r
     | _ => Zk anc (j + 1) r
   | _ => Zk anc (j + 1) r
def adK (anc : List Nat) : Nat → List Oper → List Nat
 | _, [] => []
 | j, o :: r => bif tq o.op && !gq o.op && !memN j anc then lw o.op.operands.toList ++ adK anc (j + 1) r else adK anc (j + 1) r
def ain (i : Nat) : List Nat → List Nat
 | [] => []
 | j :: r => bif Nat.beq j i then [] else j :: ain i r
def aa8 (ops : Array Oper) (anc : List Nat) : List Nat → List Nat
 | [] => []
 | j :: r => match ops[j]? with
   | some o => bif tq o.op && !memN j anc then lw o.op.operands.toList ++ (match o.dst with
     | some d => d :: aa8 ops anc r
     | none => aa8 ops anc r) else aa8 ops anc r
   | none => aa8 ops anc r
def LQ (ops : Array Oper) (i : Nat) : List Nat := match ops[i]? with
 | some o => match o.op with
   | .store _ _ _ => Zk (WQ (aa0 ops ops.size 0 []) i) 0 ops.toList
   | .call c => match c.callee with
     | .value _ => adK (WQ (aa0 ops ops.size 0 []) i) 0 ops.toList
     | .builtin b => match b with
       | .append => aa8 ops (WQ (aa0 ops ops.size 0 []) i) (ain i (OQ ops ops.size []))
       | _ => []
     | _ => []
   | _ => []
 | none => []
def kK (o : Op) (l : List Nat) : Bool := match o with
 | .load _ x => match x with
   | .tmp s => memN s l
   | _ => false
 | _ => false
def rmN (x : Nat) : List Nat → List Nat
 | [] => []
 | y :: r => bif Nat.beq x y then rmN x r else y :: rmN x r
def JK (ops : Array Oper) (j : Nat) (L : List Nat) : List Nat := match (ops[j]?).bind (·.dst) with
 | some x => rmN x L
 | none => L
def yX (ops : Array Oper) (L : List Nat) (a : Oper) (b : Oper) : Bool := match b.op with
 | .store _ _ _ => match a.dst, b.dst with
   | some x, none => !memN x (lw b.op.operands.toList ++ vz ops b) && (rq a.op && (gq a.op || lY a.op || nZ a.op || kK a.op (rmN x L)))
   | _, _ => false
 | _ => false
def tY (ops : Array Oper) (L : List Nat) (a : Oper) (b : Oper) : Bool := (rq a.op && Dy b.op) && (match a.dst, b.dst with
 | some x, some y => (!Nat.beq x y && (!memN x (lw b.op.operands.toList ++ vz ops b) && !memN y (lw a.op.operands.toList ++ vz ops a))) && (gq a.op || lY a.op || subN (lw a.op.operands.toList) (rmN x L))
 | _, _ => false)
def yK (ops : Array Oper) (L : List Nat) (a : Oper) (b : Oper) : Bool := (tq a.op && ((gq a.op || nZ a.op) && abM b.op)) && (match a.dst, b.dst with
 | some x, some y => (!Nat.beq x y && (!memN x (lw b.op.operands.toList ++ vz ops b) && !memN y (lw a.op.operands.toList ++ vz ops a))) && (memN x L && subN (lw a.op.operands.toList) (rmN x L))
 | _, _ => false)
def kY (o : Oper) : Nat := o.dst.getD 0
def acB (anc : List Nat) (i : Nat) : Nat → List Oper → List Nat
 | _, [] => []
 | j, o :: r => bif qw o.op && (!Nat.beq j i && !memN j anc) then kY o :: acB anc i (j + 1) r else acB anc i (j + 1) r
def mQ (ops : Array Oper) (i : Nat) : List Nat := acB (WQ (aa0 ops ops.size 0 []) i) i 0 ops.toList
def uX (ops : Array Oper) (o : Oper) (j : Nat) : Bool := !qw o.op || (memN (kY o) (mQ ops j) && (match ops[j]? with
 | some oj => !Nat.beq (kY o) (kY oj)
 | none => false))
def LW (ops : Array Oper) : List Nat → List (Nat × List Nat) → List Nat → Bool
 | [], _, done => allIn ops.size done
 | i :: r, t, done => match ops[i]? with
   | some o => (aeA ops done i && (pairsOK ops i o (PK t (zW o.after.toList)) (LQ ops i) done && LW ops r ((i, PK t (zW o.after.toList)) :: t) (i :: done)))
   | none => false
where
 allIn : Nat → List Nat → Bool
  | 0, _ => true
  | n + 1, l => memN n l && allIn n l
 pairsOK (ops : Array Oper) (i : Nat) (o : Oper) (w : List Nat) : List Nat → List Nat → Bool
  | _, [] => true
  | L, j :: r => (uX ops o j && (memN j w || (match ops[j]? with
    | some oj => (Gz ops oj o || yX ops L oj o || tY ops L oj o || yK ops L oj o) && uX ops oj i
    | none => false))) && pairsOK ops i o w (JK ops j L) r
mutual
def AV.at (d : Nat) : AV → Bool
 | .ptr j _ _ => Nat.beq (j / 64) d
 | .sl j => Nat.beq (j / 64) d
 | .sub j _ _ => Nat.beq (j / 64) d
 | .agg l => AV.atAll d l
 | .tup l => AV.atAll d l
 | .fn _ l => AV.atAll d l
 | .map j => Nat.beq (j / 64) d
 | _ => false
def AV.atAll (d : Nat) : List AV → Bool
 | [] => false
 | x :: r => x.at d || AV.atAll d r
end
def Blk.at (d : Nat) : Blk → Bool
 | .mix _ _ l => AV.atAll d l
 | _ => false
def ZK (d : Nat) : Heap → Bool
 | [] => false
 | (j, b) :: r => Nat.beq (j / 64) d || (b.at d || ZK d r)
def aa9 (d : Nat) (v : AV) : AV := bif v.at d then .undef else v
def uK (d : Nat) : Blk → Blk
 | .mix m e l => .mix m e (l.map (aa9 d))
 | b => b
def Ew (d : Nat) : Heap → Heap
 | [] => []
 | (j, b) :: r => bif Nat.beq (j / 64) d then Ew d r else (j, uK d b) :: Ew d r
def St.drop (st : St) (d : Nat) : St := ⟨st.slots.map (aa9 d), Ew d st.heap⟩
def dropAll : List Nat → St → St
 | [], st => st
 | d :: r, st => dropAll r (st.drop d)
def rJ : List Oper → List Nat
 | [] => []
 | o :: r => bif qw o.op then kY o :: rJ r else rJ r
def insH (id : Nat) (b : Blk) : Heap → Heap
 | [] => [(id, b)]
 | (j, c) :: r => bif Nat.ble j id then (j, c) :: insH id b r else (id, b) :: (j, c) :: r
def jW : List (Nat × Blk) → Heap → Heap
 | [], h => h
 | (id, b) :: r, h => jW r (insH id b h)
def mkSt (st : St) (dst : Option Tmp) (bs : List (Nat × Blk)) (v : AV) : St := St.put ⟨st.slots, jW bs st.heap⟩ dst v
def BV : List Nat → AV → Bool
 | [], _ => true
 | d :: r, v => !v.at d && BV r v
def JJ (ns : List Nat) : List (Nat × Blk) → Bool
 | [] => true
 | (_, b) :: r => (match b with
   | .mix _ _ l => BV ns (.agg l)
   | _ => true) && JJ ns r
def abT (dst : Option Tmp) (st : St) : AV := match dst with
 | some d => st.slots.getD d .undef
 | none => .undef
def VK (E : Env α) (o : Oper) (st : St) : Option (Blk × AV) :=
 bif Nat.ble E.low (gJ o.dst) then match o.op with
 | .alloc t => (rQ E.P t).bind fun z => bif gz (cellsOf z) && !AV.namesAll (gJ o.dst) (cellsOf z) then some (abp E.P t (cellsOf z), .ptr (gJ o.dst) 0 0) else none
 | .box t x => bif gz (cellsOf (st.get x)) && !AV.namesAll (gJ o.dst) (cellsOf (st.get x)) then some (lV 2 t (cellsOf (st.get x)), .ptr (gJ o.dst) 0 0) else none
 | .buildSlice t len parts => (RZ E.P t len (parts.toList.map fun (i, x) => (i, st.get x))).bind fun b => bif AV.namesAll (gJ o.dst) b.flat then none else some (b, .sl (gJ o.dst))
 | .makeSlice t l c => match E.P.underlying t, st.get l with
   | some (.slice e), .int .i64 n => (tyOf E.P e).bind fun ty => (rQ E.P e).bind fun z => (ty.dec (cellsOf z)).bind fun x => (fV E.P e).bind fun sz =>
      bif Nat.beq sz ty.w && (vk E.P e && acj l c) then
      bif decide (0 ≤ n) && decide (n ≤ (big : Int)) then some (.rows 2 e ty (List.replicate n.toNat x), .sl (gJ o.dst)) else none
      else none
   | _, _ => none
 | _ => none
 else none
def impC (n : Nat) (d : D) : Option (List (Nat × Blk) × AV × Nat) := match d with
 | .sl e t l => some ([(n, .rows 2 e t l)], .sl n, n + 1)
 | d => (nK d).map fun v => ([], v, n)
def VY (n : Nat) : List D → Option (List (Nat × Blk) × List AV × Nat)
 | [] => some ([], [], n)
 | d :: r => (impC n d).bind fun p => (VY p.2.2 r).map fun q => (p.1 ++ q.1, p.2.1 :: q.2.1, q.2.2)
def imp1 (avs : List AV) (n : Nat) (d : D) : Option (List (Nat × Blk) × AV × Nat) := match d with
 | .agg l => (VY n l).map fun q => (q.1, .agg q.2.1, q.2.2)
 | .ptr e l => (VY n l).map fun q => (q.1 ++ [(q.2.2, lV 2 e q.2.1)], .ptr q.2.2 0 0, q.2.2 + 1)
 | .same j => (avs[j]?).map fun v => ([], v, n)
 | d => impC n d
def YV (avs : List AV) (n : Nat) : List D → Option (List (Nat × Blk) × List AV × Nat)
 | [] => some ([], [], n)
 | d :: r => (imp1 avs n d).bind fun p => (YV avs p.2.2 r).map fun q => (p.1 ++ q.1, p.2.1 :: q.2.1, q.2.2)
def ab2 (avs : List AV) (n : Nat) (r : Res) : Option (List (Nat × Blk) × AV) :=
 (YV avs n r.rs).bind fun q => bif Nat.ble q.2.2 (n + 64) then some (q.1, Vz q.2.1) else none
def Vw (E : Env α) (dst : Option Tmp) (f : AV) (args : List AV) (h : Heap) : Option (FuncId × List D × List AV × List Nat) :=
 match f with
 | .fn g caps => (jX (E.M g) (args ++ caps)).bind fun ids =>
    bif Wx ids && Nat.ble E.low (gJ dst) then (sZ ids h (E.M g) (args ++ caps)).map fun ds => (g, ds, args ++ caps, ids) else none
 | _ => none
def aeZ (E : Env α) (ns : List Nat) (dst : Option Tmp) (f : AV) (args : List AV) (st : St) (k : St → Option α) : Option α :=
 (Vw E dst f args st.heap).bind fun p => E.C p.1 p.2.1 fun r => (back st.heap p.2.2.2 r.outs).bind fun h => (ab2 p.2.2.1 (gJ dst) r).bind fun q => bif BV ns q.2 && JJ ns q.1 then k (mkSt ⟨st.slots, h⟩ dst q.1 q.2) else none
def CJ (E : Env α) (ns : List Nat) (o : Oper) (st : St) (k : St → Option α) : Option α :=
 bif lY o.op then (VK E o st).bind fun q => bif BV ns q.2 && JJ ns [(gJ o.dst, q.1)] then k (mkSt st o.dst [(gJ o.dst, q.1)] q.2) else none
 else bif tq o.op then evOp E o st fun s => bif BV ns (abT o.dst s) then k s else none
 else bif Dy o.op then (match o.op with
  | .call c => match c.callee with
    | .value f => aeZ E ns o.dst (st.get f) (c.args.toList.map st.get) st k
    | _ => none
  | _ => none)
 else match o.op with
 | .store _ _ x => bif BV ns (st.get x) then evOp E o st k else none
 | _ => match ns with
   | [] => evOp E o st k
   | _ :: _ => none
def xy (ops : Array Oper) (o : Oper) (st : St) : Option Bool :=
 match o.guard with
 | none => some true
 | some (j, want) => match Qx ops j st with
   | some (_, b) => some (bif want then b else !b)
   | none => bif Wq ops j st then some false else none
def lX (E : Env α) (ops : Array Oper) (ns : List Nat) (o : Oper) (st : St) (k : St → Option α) : Option α :=
 (xy ops o st).bind fun g => bif g then CJ E ns o st k else k (st.put o.dst (.tup []))
def aiD (E : Env α) (ops : Array Oper) (ns : List Nat) (o : Oper) (st : St) (k : St → Option α) : Option α :=
 match o.guard with
 | none => CJ E ns o st k
 | some (j, want) => match Qx ops j st with
   | some (d, b) =>
     bif b then
      (bif want then CJ E ns o (st.put (some d) (.bool true)) k else k ((st.put (some d) (.bool true)).put o.dst (.tup [])))
     else
      (bif want then k ((st.put (some d) (.bool false)).put o.dst (.tup [])) else CJ E ns o (st.put (some d) (.bool false)) k)
   | none => bif Wq ops j st then k (st.put o.dst (.tup [])) else none
def UK (st : St) (id : Nat) : List Nat → Bool
 | [] => true
 | s :: r => (match st.slots.getD s .undef with
   | .ptr j _ _ => !Nat.beq j id
   | _ => false) && UK st id r
def SQ (st : St) : List Nat → List Nat → Bool
 | [], _ => true
 | id :: r, L => freeOf1 st id L && SQ st r L
where
 freeOf1 (st : St) (id : Nat) : List Nat → Bool
  | [] => true
  | s :: r => !(st.slots.getD s .undef).names id && freeOf1 st id r
def aiH (dst : Option Tmp) : AV → Nat
 | .sl id => id
 | .sub id _ _ => id
 | _ => gJ dst
def chkL (E : Env α) (L : List Nat) (o : Oper) (st : St) : Bool := match o.op with
 | .store _ a _ => match L with
   | [] => true
   | s :: r => match st.get a with
     | .ptr id _ _ => UK st id (s :: r)
     | _ => false
 | .call c => match c.callee with
   | .value f => match st.get f with
     | .fn g caps => match jX (E.M g) (c.args.toList.map st.get ++ caps) with
       | some ids => SQ st ids L
       | none => true
     | _ => true
   | .builtin b => match b with
     | .append => match c.args.toList with
       | s :: _ => SQ.freeOf1 st (aiH o.dst (st.get s)) L
       | [] => true
     | _ => true
   | _ => true
 | _ => true
def chkQ (E : Env α) (ops : Array Oper) (i : Nat) (o : Oper) (st : St) : Bool := chkL E (LQ ops i) o st
def Lj (E : Env α) (ops : Array Oper) : List Nat → St → (St → Option α) → Option α
 | [], st, k => k st
 | i :: r, st, k => match ops[i]? with
   | some o => bif chkQ E ops i o st then aiD E ops (mQ ops i) o st fun st => Lj E ops r st k else none
   | none => none
def ag2 (E : Env α) (ops : Array Oper) (st : St) (k : St → Option α) : Option α :=
 bif E.P.follows .mixedOrders && LW ops (OQ ops ops.size []) [] [] then Lj E ops (OQ ops ops.size []) (dropAll (rJ ops.toList) st) k else none
def acn (round : St → (Out → Option α) → Option α) : Nat → St → (Out → Option α) → Option α
 | 0, _, _ => none
 | n + 1, st, k => round st fun out => match out with
   | .normal st' => acn round n st' k
   | .exit j st' => k (.exit j st')
   | .ret r => k (.ret r)
def iV : Code → Option Nat
 | .region id _ _ => some id
 | .seq a b => match iV a with
   | some i => some i
   | none => iV b
 | .block _ b => iV b
 | .loop b => iV b
 | .cond _ a b => match iV a with
   | some i => some i
   | none => iV b
 | _ => none
def abb (low : Nat) (t : Option Tpl) (st : St) (k : St → Option α) : Option α := match t with
 | none => k st
 | some t => (t.take low st).bind fun p => (t.build p).bind k
noncomputable def aak (E : Env α) (ops : Array Oper) (draw : Bool) (st : St) (k : St → Option α) : Option α :=
 bif draw then ag2 E ops st k else Vj E ops ops.toList st k
def jtOf : List (Nat × Tpl) → Nat → Option Tpl
 | [], _ => none
 | (j, t) :: r, id => bif Nat.beq j id then some t else jtOf r id
def af4 (E : Env α) (b : Code) (L : Lp α) (st : St) (k : Out → Option α) : Option α := match L.tpl.take E.low st with
 | some p => L.run p (fun j q => (L.tpl.build q).bind fun st' => k (.exit j st')) fun r => k (.ret r)
 | none => ((iV b).bind fun i => E.lp (i + 100000)).bind fun L => (L.tpl.take E.low st).bind fun p => L.run p (fun j q => (L.tpl.build q).bind fun st' => k (.exit j st')) fun r => k (.ret r)
noncomputable def ev (E : Env α) : Code → St → (Out → Option α) → Option α
 | .skip, st, k => k (.normal st)
 | .label _, st, k => k (.normal st)
 | .ret, st, k => E.res st fun r => k (.ret r)
 | .exit id, st, k => k (.exit id st)
 | .region id ops draw, st, k => abb E.low (E.jt id) st fun st => aak E ops draw st fun st => k (.normal st)
 | .seq a b, st, k => ev E a st fun out => match out with
   | .normal st => ev E b st k
   | .exit j st => k (.exit j st)
   | .ret r => k (.ret r)
 | .cond c a b, st, k => match st.get c with
   | .bool t => bif t then ev E a st k else ev E b st k
   | _ => none
 | .block id b, st, k => ev E b st fun out => match out with
   | .normal st => k (.normal st)
   | .exit j st => bif Nat.beq j id then k (.normal st) else k (.exit j st)
   | .ret r => k (.ret r)
 | .loop b, st, k => match (iV b).bind E.lp with
   | none => acn (fun st k => ev E b st k) 40 st k
   | some L => bif L.tpl.peel then ev E b st fun out => match out with
      | .normal st' => af4 E b L st' k
      | .exit j st' => k (.exit j st')
      | .ret r => k (.ret r)
     else af4 E b L st k
 | _, _, _ => none
def aa6 (low : Nat) (t : Tpl) (again : List P1 → Option α) (brk : Nat → List P1 → Option α) (ret : Res → Option α) : Out → Option α
 | .normal st => (t.take low st).bind again
 | .exit j st => (t.take low st).bind (brk j)
 | .ret r => ret r
def ah0 (np id : Nat) : Bool := Nat.beq (id / 64 * 64) id && Nat.blt (id / 64) np
def af2 (m id : Nat) (gone used : List Nat) : Bool := (Nat.beq m 2 || (!Nat.beq m 0 && memN id gone)) && !memN id used
def abe (h : Heap) (np : Nat) (gone used : List Nat) (v : AV) : Option (D × List Nat) :=
 match v with
 | .sl id => (look h id).bind fun b => bif Nat.beq b.mode 0 then (bif ah0 np id then some (.same (id / 64), used) else none) else match b with
   | .rows m e t l => bif af2 m id gone used then some (.sl e t l, id :: used) else none
   | _ => none
 | .sub id 0 n => (look h id).bind fun b => match b with
   | .rows m e t l => bif af2 m id gone used then some (.sl e t (l.take n), id :: used) else none
   | _ => none
 | v => (MV v).map fun d => (d, used)
def Tq (h : Heap) (np : Nat) (gone : List Nat) : List Nat → List AV → Option (List D × List Nat)
 | used, [] => some ([], used)
 | used, v :: vs => (abe h np gone used v).bind fun (d, used) => (Tq h np gone used vs).map fun (ds, used) => (d :: ds, used)
def resD (h : Heap) (np : Nat) (gone used : List Nat) (v : AV) : Option (D × List Nat) :=
 match v with
 | .agg l => (Tq h np gone used l).map fun (ds, used) => (.agg ds, used)
 | .ptr id 0 0 => (look h id).bind fun b => bif Nat.beq b.mode 2 then (Tq h np gone used b.flat).bind fun (ds, used) => match ds with
    | [] => none
    | d :: ds => bif memN id used then none else some (.ptr b.e (d :: ds), id :: used)
   else none
 | v => abe h np gone used v
def MJ (P : Program) (np : Nat) (gone : List Nat) : List ResultVar → List Nat → St → (List D → Option α) → Option α
 | [], _, _, k => k []
 | .tmp t :: r, used, st, k => (resD st.heap np gone used (st.slots.getD t .undef)).bind fun (d, used) => MJ P np gone r used st fun ds => k (d :: ds)
 | .cell a t :: r, used, st, k => match st.slots.getD a .undef with
   | .ptr id i c => (look st.heap id).bind fun b => (fV P t).bind fun n => (aggT P t).bind fun ag => b.read i c n fun cs =>
     bif ag then (resD st.heap np gone used (.agg cs)).bind fun (d, used) => MJ P np gone r used st fun ds => k (d :: ds)
     else Vq cs fun x => (resD st.heap np gone used x).bind fun (d, used) => MJ P np gone r used st fun ds => k (d :: ds)
   | _ => none
def amE (sl : List AV) (id : Nat) : ResultVar → Bool
 | .tmp t => match sl.getD t .undef with
   | .sl j => Nat.beq j id
   | .sub j 0 _ => Nat.beq j id
   | _ => false
 | _ => false
def Qj (sl : List AV) (rs : List ResultVar) : List (Bool × Nat × Blk) → List Nat
 | [] => []
 | (s, id, _) :: r => bif s && rs.any (amE sl id) then id :: Qj sl rs r else Qj sl rs r
def abB (gone : List Nat) : List (Bool × Nat × Blk) → List D → List D
 | (s, id, _) :: r, o :: os => (bif s && memN id gone then .nilsl else o) :: abB gone r os
 | _, os => os
def aiU (gone : List Nat) : List Nat → List Nat
 | [] => []
 | x :: r => bif memN x gone then aiU gone r else x :: aiU gone r
def KY : List AV → List AV → Option (List D)
 | [], [] => some []
 | v :: vs, u :: us => match v, u with
   | .sl i, .sl j => bif Nat.beq i j then (KY vs us).map (.keep :: ·) else none
   | _, u => (MV u).bind fun d => (KY vs us).map (d :: ·)
 | _, _ => none
def outD (h : Heap) (id : Nat) (b0 : Blk) : Option D :=
 (look h id).bind fun b => bif Nat.beq b.e b0.e then match b0, b with
   | .rows _ _ _ _, .rows _ _ t l => (pV (l.flatMap t.enc)).map (.ptr b0.e)
   | .mix _ _ l0, .mix _ _ l => (KY l0 l).map (.ptr b0.e)
   | _, _ => none
 else none
def amJ (h : Heap) (id : Nat) (b0 : Blk) : Option D :=
 (look h id).bind fun b => match b0, b with
   | .rows _ e t _, .rows _ e' t' l => if h : t' = t then bif Nat.beq e' e then some (.sl e t (h ▸ l)) else none else none
   | _, _ => none
def ac4 (h : Heap) : List (Bool × Nat × Blk) → Option (List D)
 | [] => some []
 | (s, id, b) :: r => (bif s then amJ h id b else outD h id b).bind fun d => (ac4 h r).map (d :: ·)
structure Ent where
 heap : Heap
 lent : List (Bool × Nat × Blk)
def Hq (n : Nat) : D → Option (AV × Heap × Nat)
 | .sl e t l => some (.sl n, [(n, .rows 0 e t l)], n + 1)
 | d => (nK d).map fun v => (v, [], n)
def qV (n : Nat) : List D → Option (List AV × Heap × Nat)
 | [] => some ([], [], n)
 | d :: r => (Hq n d).bind fun (v, h, n) => (qV n r).map fun (vs, h', n) => (v :: vs, h ++ h', n)
def abd (n : Nat) : D → Option (AV × Heap × Nat)
 | .ptr e l => (qV (n + 1) l).map fun (vs, h, m) => (.ptr n 0 0, (n, lV 0 e vs) :: h, m)
 | d => Hq n d
def QZ (n : Nat) : List D → Option (List AV × Heap × Nat)
 | [] => some ([], [], n)
 | d :: r => (abd n d).bind fun (v, h, n) => (QZ n r).map fun (vs, h', n) => (v :: vs, h ++ h', n)
def zV (n : Nat) : D → Option (AV × Ent × Nat)
 | .agg l => (qV (n + 1) l).map fun (vs, h, m) => (.agg vs, ⟨h, []⟩, m)
 | .slm e l => (qV (n + 1) l).map fun (vs, h, m) => (.sl n, ⟨(n, .mix 0 e vs) :: h, []⟩, m)
 | .msl e t l => some (.sl n, ⟨[(n, .rows 1 e t l)], [(true, n, .rows 1 e t l)]⟩, n + 1)
 | .mptr e l => (qV (n + 1) l).map fun (vs, h, m) => (.ptr n 0 0, ⟨(n, lV 1 e vs) :: h, [(false, n, lV 1 e vs)]⟩, m)
 | .fn f l => (QZ (n + 1) l).map fun (vs, h, m) => (.fn f vs, ⟨h, []⟩, m)
 | d => (abd n d).map fun (v, h, m) => (v, ⟨h, []⟩, m)
def uz (n : Nat) : List D → Option (List AV × Ent)
 | [] => some ([], ⟨[], []⟩)
 | d :: r => (zV n d).bind fun (v, e, m) => bif Nat.ble m (n + 64) then (uz (n + 64) r).map fun (vs, e') => (v :: vs, ⟨e.heap ++ e'.heap, e.lent ++ e'.lent⟩) else none
def aeE (P : Program) (fn : Func) (np : Nat) (lent : List (Bool × Nat × Blk)) (st : St) (k : Res → Option α) : Option α :=
 (ac4 st.heap lent).bind fun os => MJ P np (Qj st.slots fn.results.toList lent) fn.results.toList (aiU (Qj st.slots fn.results.toList lent) (lent.map (·.2.1))) st fun rs => k ⟨rs, abB (Qj st.slots fn.results.toList lent) lent os⟩
structure Ctx (α : Type) where
 C : FuncId → List D → (Res → Option α) → Option α
 M : FuncId → List Nat
 eqs : TypeId → Nat → Bool
 lp : Nat → Option (Lp α)
 jt : Nat → Option Tpl
 two : Opt := {}
def Ctx.env (X : Ctx α) (P : Program) (fn : Func) (np : Nat) (lent : List (Bool × Nat × Blk)) : Env α :=
 { P, C := X.C, M := X.M, eqs := X.eqs, lp := X.lp, jt := X.jt, low := np * 64, res := aeE P fn np lent, two := X.two }
noncomputable def evFn (P : Program) (X : Ctx α) (f : Func) (args : List D) (k : Res → Option α) : Option α :=
 match f.body with
 | some c => (uz 0 args).bind fun (vs, e) =>
   ev (X.env P f vs.length e.lent) c { slots := vs ++ List.replicate (f.ntmps - vs.length) .undef, heap := e.heap } fun out => match out with
    | .normal st => aeE P f vs.length e.lent st k
    | .ret r => k r
    | .exit _ _ => none
 | none => none
end Go.Ev
