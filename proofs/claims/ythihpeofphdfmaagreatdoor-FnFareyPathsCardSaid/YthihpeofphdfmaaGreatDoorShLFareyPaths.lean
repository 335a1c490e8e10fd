/- The program's functions, read without memory: printed by a program of ours. -/
import Derived.Test.YthihpeofphdfmaaGreatDoorMaB
import Derived.Test.YthihpeofphdfmaaGreatDoorEvSort2
import Derived.Test.YthihpeofphdfmaaGreatDoorEvStr
namespace Go.Sh
open Go Go.Ev
variable {α : Type}
abbrev T0 (α : Type) : Type := Nat → List Int → (Bool → Option α) → Option α
abbrev T1 (α : Type) : Type := Nat → Int → List Int → Int → Int → (Int → List Int → Int → Int → Option α) → (Int → Int → Option α) → Option α
abbrev T2 (α : Type) : Type := Nat → List Int → (Int → Int → Option α) → Option α
abbrev T3 (α : Type) : Type := Nat → List Int → Int → Int → Int → (Int → Int → Int → Option α) → Option α
abbrev T4 (α : Type) : Type := Nat → List Int → Int → Int → List Int → (Int → Int → Int → Option α) → Option α
abbrev T5 (α : Type) : Type := Nat → List Int → Int → Int → Int → (Int → Int → Int → Int → Option α) → Option α
abbrev T6 (α : Type) : Type := Nat → Int → Int → (Int → Int → Option α) → (Int → Option α) → Option α
abbrev T7 (α : Type) : Type := Nat → Int → Int → (Int → Option α) → Option α
abbrev T8 (α : Type) : Type := Nat → Int → Int → (Int → Int → Option α) → Option α
abbrev T9 (α : Type) : Type := Nat → Int → Int → Int → Int → Int → (Int → Int → Option α) → Option α
abbrev T10 (α : Type) : Type := Nat → List Int → Int → Int → Int → Int → (Int → Int → Int → Int → Option α) → Option α
abbrev T11 (α : Type) : Type := Nat → List Int → Int → Int → (Int → Int → Int → Int → Option α) → Option α
abbrev T12 (α : Type) : Type := Nat → Int → Int → Int → (Bool → Option α) → Option α
abbrev T13 (α : Type) : Type := Nat → Int → (Bool → Option α) → Option α
abbrev T14 (α : Type) : Type := Nat → Int → Int → (Bool → Option α) → Option α
abbrev T15 (α : Type) : Type := Nat → Int → Int → (List (Int × Int)) → (Int → Int → (List (Int × Int)) → Option α) → (Int → Option α) → Option α
abbrev T16 (α : Type) : Type := Nat → (List (Int × Int)) → (Int → Option α) → Option α
abbrev T17 (α : Type) : Type := Nat → (List (Int × Int)) → (Bool → Option α) → Option α
abbrev T18 (α : Type) : Type := Nat → Int → (Int → Option α) → Option α
abbrev T19 (α : Type) : Type := Nat → Int → Int → Int → Int → Int → (Int → Int → Int → Int → Int → Option α) → (Int → Option α) → Option α
abbrev T20 (α : Type) : Type := Nat → Int → Int → Int → Int → (Int → Int → Option α) → Option α
abbrev T21 (α : Type) : Type := Nat → Int → Int → (Int → Int → Int → Int → Option α) → Option α
abbrev T22 (α : Type) : Type := Nat → Int → Int → (Int → Option α) → ((List (Int × Int)) → Int → Option α) → Option α
abbrev T23 (α : Type) : Type := Nat → Int → (List (Int × Int)) → (Int → (List (Int × Int)) → Option α) → (Int → Option α) → Option α
abbrev T24 (α : Type) : Type := Nat → Int → Int → Int → Int → Int → Int → Int → Int → Int → (Int → Int → Int → Int → Int → Int → Int → Int → Int → Option α) → (Int → Int → Option α) → Option α
abbrev T25 (α : Type) : Type := Nat → (Bool → Option α) → Option α
abbrev T26 (α : Type) : Type := Nat → Int → Int → ByteArray → (Int → Int → ByteArray → Option α) → (ByteArray → Int → Option α) → Option α
abbrev T27 (α : Type) : Type := Nat → Int → Int → (ByteArray → Int → Option α) → Option α
abbrev T28 (α : Type) : Type := Nat → ByteArray → Int → Int → (ByteArray → Int → Int → Option α) → (ByteArray → Int → Option α) → Option α
abbrev T29 (α : Type) : Type := Nat → ByteArray → ByteArray → (ByteArray → Option α) → Option α
abbrev T30 (α : Type) : Type := Nat → ByteArray → Int → (Bool → Option α) → Option α
abbrev T31 (α : Type) : Type := Nat → Int → Int → (Int → Int → Int → Option α) → Option α
abbrev T32 (α : Type) : Type := Nat → ByteArray → Int → Int → Int → Int → Int → Int → Int → Int → (ByteArray → Int → Int → Int → Int → Int → Int → Int → Int → Option α) → (Int → Int → Int → Option α) → Option α
abbrev T33 (α : Type) : Type := Nat → ByteArray → (Int → Int → Int → Option α) → Option α
abbrev T34 (α : Type) : Type := Nat → Int → Int → List Int → (Int → Int → List Int → Option α) → (List Int → Option α) → Option α
abbrev T35 (α : Type) : Type := Nat → Int → Int → (List Int → Option α) → Option α
abbrev T36 (α : Type) : Type := Nat → Int → Int → (Int → Option α) → (List Int → Int → Option α) → Option α
abbrev T37 (α : Type) : Type := Nat → (Int → Option α) → Option α
abbrev T38 (α : Type) : Type := Nat → List Int → (Int → Option α) → Option α
abbrev T39 (α : Type) : Type := Nat → Int → Int → Int → Int → (Int → Option α) → Option α
abbrev T40 (α : Type) : Type := Nat → (List (Int × Int)) → ((List (Int × Int)) → Option α) → Option α
abbrev T41 (α : Type) : Type := Nat → Int → Int → Int → (List (Int × Int)) → (Int → Int → Int → (List (Int × Int)) → Option α) → (Int → Option α) → ((List (Int × Int)) → Int → Option α) → Option α
abbrev T42 (α : Type) : Type := Nat → Int → Int → (List (Int × Int)) → (Int → Int → (List (Int × Int)) → Option α) → (Int → Option α) → ((List (Int × Int)) → Int → Option α) → Option α
abbrev T43 (α : Type) : Type := Nat → Int → (Int → Option α) → ((List (Int × Int)) → Int → Option α) → Option α
abbrev T44 (α : Type) : Type := Nat → List Int → Int → Int → ByteArray → (ByteArray → Int → Int → Option α) → Option α
abbrev T45 (α : Type) : Type := Nat → ByteArray → Int → Int → Int → Int → List Int → (ByteArray → Int → Int → Int → Int → List Int → Option α) → (ByteArray → Option α) → Option α
abbrev T46 (α : Type) : Type := Nat → List Int → (ByteArray → Option α) → Option α
abbrev T47 (α : Type) : Type := Nat → ByteArray → Int → Int → Int → (ByteArray → Int → Int → Int → Option α) → (Int → Int → Int → Option α) → Option α
abbrev T48 (α : Type) : Type := Nat → ByteArray → Int → Int → Int → Int → Int → Int → Int → (ByteArray → Int → Int → Int → Int → Int → Int → Int → Option α) → (Int → Int → Int → Option α) → Option α
abbrev T49 (α : Type) : Type := Nat → List Int → Int → Int → (Int → Int → Int → Option α) → Option α
abbrev T50 (α : Type) : Type := Nat → List Int → Int → Int → (Int → Int → Int → Int → Int → Int → Option α) → Option α
abbrev T51 (α : Type) : Type := Nat → List Int → (Int → Int → Int → Int → Int → Int → Option α) → Option α
abbrev T52 (α : Type) : Type := Nat → Int → Int → Int → Int → (Bool → Option α) → Option α
abbrev T53 (α : Type) : Type := Nat → Int → Int → Int → Int → Int → Int → (Int → Int → Int → Option α) → Option α
abbrev T54 (α : Type) : Type := Nat → List Int → (Int → Int → Int → Int → Option α) → Option α
abbrev T55 (α : Type) : Type := Nat → Int → Int → Int → Int → Int → (Int → Int → Int → Option α) → Option α
abbrev T56 (α : Type) : Type := Nat → Int → Int → Int → Int → (Int → Int → Int → Option α) → Option α
abbrev T57 (α : Type) : Type := Nat → Int → (List (Int × Int)) → (Int → (List (Int × Int)) → Option α) → (Bool → Option α) → Option α
abbrev T58 (α : Type) : Type := Nat → Int → (List (Int × Int)) → (List (Int × Int)) → (Int → (List (Int × Int)) → (List (Int × Int)) → Option α) → (Bool → Option α) → Option α
abbrev T59 (α : Type) : Type := Nat → (List (Int × Int)) → (List (Int × Int)) → (Bool → Option α) → Option α
abbrev T60 (α : Type) : Type := Nat → Int → Int → List Int → (Int → Int → List Int → Option α) → (Int → Option α) → Option α
abbrev T61 (α : Type) : Type := Nat → Int → Int → Int → Int → (Bool → Int → Option α) → Option α
abbrev T62 (α : Type) : Type := Nat → Int → List Int → (List (Int × Int)) → (Int → List Int → (List (Int × Int)) → Option α) → (Bool → Option α) → Option α
def af5 : T0 α := fun _ code r0 =>
 r0 (decide (4096 < (code.length : Int)))
def iK : T0 α := af5
def Nw (g : Int → List Int → Int → Int → (Int → List Int → Int → Int → Option α) → (Int → Int → Option α) → Option α) : T1 α := fun _ i code1 s s1 b0 r0 =>
 bif decide (i < (code1.length : Int)) then
  bif decide (i < 4096) then
   bif (decide (0 ≤ i) && decide (i < (code1.length : Int))) then
    (code1[i.toNat]?).bind fun e_ =>
    g (w64 (i + 1)) code1 s (IntKind.wrap .u64 ((IntKind.wrap .u64 ((IntKind.wrap .u64 (s1 * 1099511628211)) + (IntKind.wrap .u64 e_))) + 107)) b0 r0
   else
    none
  else
   b0 i code1 s s1
 else
  b0 i code1 s s1
def vY : T1 α
 | 0 => fun _ _ _ _ _ _ => none
 | k + 1 => Nw (vY k) k
def acF (G3 : T1 α) : T2 α := fun k code r0 =>
 G3 k 0 code 0 (IntKind.wrap .u64 (12971 + (IntKind.wrap .u64 (code.length : Int))))
  (fun _ _ s2 s3 =>
    r0 s2 s3)
  r0
def lJ : T2 α := acF vY
def acO : T3 α := fun _ s s1 s2 n_ r0 =>
 bif decide (n_ < 1) then
  r0 0 s1 s2
 else
 bif decide (s1 < (s.length : Int)) then
  bif (decide (0 ≤ s1) && decide (s1 < (s.length : Int))) then
   (s[s1.toNat]?).bind fun e_ =>
   bif decide (n_ = 0) then
    none
   else
    r0 (Int.tmod (w64 ((w64 (IntKind.wrap .u64 ((BitVec.ofInt 64 (Int.fdiv (IntKind.wrap .u64 ((IntKind.wrap .u64 (s2 * 6364136223846793005)) + 1442695040888963407)) (2 ^ 31)) &&& BitVec.ofInt 64 1073741823).toNat))) + (w64 e_))) n_) (w64 (s1 + 1)) (IntKind.wrap .u64 ((IntKind.wrap .u64 (s2 * 6364136223846793005)) + 1442695040888963407))
  else
   none
 else
 bif decide (n_ = 0) then
  none
 else
  r0 (Int.tmod (w64 (IntKind.wrap .u64 ((BitVec.ofInt 64 (Int.fdiv (IntKind.wrap .u64 ((IntKind.wrap .u64 (s2 * 6364136223846793005)) + 1442695040888963407)) (2 ^ 31)) &&& BitVec.ofInt 64 1073741823).toNat))) n_) s1 (IntKind.wrap .u64 ((IntKind.wrap .u64 (s2 * 6364136223846793005)) + 1442695040888963407))
def iy : T3 α := acO
def Zw (F0 : T3 α) : T4 α := fun k s s1 s2 list r0 =>
 F0 k s s1 s2 (list.length : Int) fun v v1 v2 =>
 bif (decide (0 ≤ v) && decide (v < (list.length : Int))) then
  (list[v.toNat]?).bind fun e_ =>
  r0 e_ v1 v2
 else
  none
def oz : T4 α := Zw iy
def Qy (F0 : T3 α) : T5 α := fun k s s1 s2 most r0 =>
 F0 k s s1 s2 (w64 ((w64 (2 * most)) + 1)) fun v v1 v2 =>
 F0 k s v1 v2 (w64 ((w64 (2 * most)) + 1)) fun v3 v4 v5 =>
 r0 (w64 (v - most)) (w64 (v3 - most)) v4 v5
def uy : T5 α := Qy iy
def Rz (g : Int → Int → (Int → Int → Option α) → (Int → Option α) → Option α) : T6 α := fun _ a1 b_1 b0 r0 =>
 bif (!decide (b_1 = 0)) then
  bif decide (b_1 = 0) then
   none
  else
   g b_1 (Int.tmod a1 b_1) b0 r0
 else
  b0 a1 b_1
def ww : T6 α
 | 0 => fun _ _ _ _ => none
 | k + 1 => Rz (ww k) k
def aa3 (G1 : T6 α) : T7 α := fun k a b_ r0 =>
 G1 k a b_
  (fun a2 _ =>
    r0 (max a2 (w64 (0 - a2))))
  r0
def CV : T7 α := aa3 ww
def aaf (F0 : T7 α) : T8 α := fun k a a1 r0 =>
 F0 k a a1 fun v =>
 bif decide (v = 0) then
  none
 else
 bif decide (v = 0) then
  none
 else
  r0 (w64 (Int.tdiv a v)) (w64 (Int.tdiv a1 v))
def Tj : T8 α := aaf CV
def Aw (F0 : T5 α) (F1 : T8 α) : T5 α := fun k s s1 s2 most r0 =>
 F0 k s s1 s2 most fun v v1 v2 v3 =>
 bif (decide (v = 0) && decide (v1 = 0)) then
  r0 1 0 v2 v3
 else
  F1 k v v1 fun v4 v5 =>
  r0 v4 v5 v2 v3
def oJ : T5 α := Aw uy Tj
def LX : T8 α := fun _ a a1 r0 =>
 bif decide (a1 < 0) then
  r0 (w64 (0 - a)) (w64 (0 - a1))
 else
 bif decide (a1 = 0) then
  bif decide (a < 0) then
   r0 (w64 (0 - a)) (w64 (0 - a1))
  else
   r0 a a1
 else
  r0 a a1
def lW : T8 α := LX
def WY (F0 : T5 α) (F1 : T8 α) : T5 α := fun k s s1 s2 most r0 =>
 F0 k s s1 s2 most fun v v1 v2 v3 =>
 F1 k v v1 fun v4 v5 =>
 r0 v4 v5 v2 v3
def MV : T5 α := WY oJ lW
def oK : T9 α := fun _ a a1 b_ b_1 k_ r0 =>
 r0 (w64 (a + (w64 (k_ * b_)))) (w64 (a1 + (w64 (k_ * b_1))))
def iW : T9 α := oK
def QZ (F0 : T3 α) (F1 : T4 α) : T10 α := fun k s s1 s2 a a1 r0 =>
 F0 k s s1 s2 40 fun v v1 v2 =>
 bif decide (v = 0) then
  F0 k s v1 v2 2 fun v3 v4 v5 =>
  F1 k s v4 v5 [1000001, (-1000001), 1099511627776] fun v6 v7 v8 =>
  bif (decide (0 ≤ v3) && decide (v3 < 2)) then
   ([a, a1][v3.toNat]?).bind fun _ =>
   ((List.set [a, a1] v3.toNat v6)[0]?).bind fun e_ =>
   ((List.set [a, a1] v3.toNat v6)[1]?).bind fun e_1 =>
   r0 e_ e_1 v7 v8
  else
   none
 else
  r0 a a1 v1 v2
def Bj : T10 α := QZ iy oz
def MQ (F0 : T4 α) (F1 : T5 α) (F2 : T3 α) (F3 : T9 α) (F4 : T10 α) : T11 α := fun k s s1 s2 r0 =>
 F0 k s s1 s2 [3, 6, 12, 100, 1000, 1000000] fun v v1 v2 =>
 F1 k s v1 v2 v fun v3 v4 v5 v6 =>
 F2 k s v5 v6 30 fun v7 v8 v9 =>
 bif decide (v7 = 0) then
  F0 k s v8 v9 [2, (-1), 0] fun v10 v11 v12 =>
  F3 k 0 0 v3 v4 v10 fun v13 v14 =>
  r0 v13 v14 v11 v12
 else
 bif decide (v7 = 1) then
  F4 k s v8 v9 v3 v4 fun v15 v16 v17 v18 =>
  r0 v15 v16 v17 v18
 else
  r0 v3 v4 v8 v9
def qW : T11 α := MQ oz MV iy iW Bj
def OW (F0 : T2 α) (F1 : T11 α) : T2 α := fun k code r0 =>
 F0 k code fun v v1 =>
 F1 k code v v1 fun v2 v3 _ _ =>
 r0 v2 v3
def bK : T2 α := OW lJ qW
def XK : T12 α := fun _ n_ low high r0 =>
 bif decide (low ≤ n_) then
  r0 (decide (n_ ≤ high))
 else
  r0 false
def DX : T12 α := XK
def Zj (F0 : T12 α) : T13 α := fun k n_ r0 =>
 F0 k n_ (-1000000) 1000000 fun v =>
 r0 v
def Hy : T13 α := Zj DX
def aab (F0 : T13 α) : T14 α := fun k a a1 r0 =>
 F0 k a fun v =>
 bif v then
  F0 k a1 fun v1 =>
  r0 v1
 else
  r0 false
def uQ : T14 α := aab Hy
def Xy (F0 : T14 α) : T14 α := fun k a a1 r0 =>
 F0 k a a1 fun v =>
 r0 (!v)
def QX : T14 α := Xy uQ
def lY (F0 : T14 α) (g : Int → Int → (List (Int × Int)) → (Int → Int → (List (Int × Int)) → Option α) → (Int → Option α) → Option α) : T15 α := fun k x x1 s1 b0 r0 =>
 bif decide (x1 < x) then
  bif (decide (0 ≤ x1) && decide (x1 < (s1.length : Int))) then
   (s1[x1.toNat]?).bind fun e_ =>
   F0 k e_.1 e_.2 fun v =>
   bif v then
    r0 x1
   else
    g x (w64 (x1 + 1)) s1 b0 r0
  else
   none
 else
  b0 x x1 s1
def iQ : T15 α
 | 0 => fun _ _ _ _ _ => none
 | k + 1 => lY QX (iQ k) k
def lq (G2 : T15 α) : T16 α := fun k s r0 =>
 G2 k (s.length : Int) 0 s
  (fun _ _ _ =>
    r0 (-1))
  r0
def kJ : T16 α := lq iQ
def lV (F0 : T16 α) : T17 α := fun k s r0 =>
 F0 k s fun v =>
 r0 (decide (0 ≤ v))
def jq : T17 α := lV kJ
def aaV (F0 : T17 α) : T17 α := fun k list r0 =>
 F0 k list fun v =>
 r0 (!v)
def Fv : T17 α := aaV jq
def acu : T18 α := fun _ n_ r0 =>
 r0 (max n_ (w64 (0 - n_)))
def Jz : T18 α := acu
def ZW (g : Int → Int → (Int → Int → Option α) → (Int → Option α) → Option α) : T6 α := fun _ a1 b_1 b0 r0 =>
 bif (!decide (b_1 = 0)) then
  bif decide (b_1 = 0) then
   none
  else
   g b_1 (Int.tmod a1 b_1) b0 r0
 else
  b0 a1 b_1
def GX : T6 α
 | 0 => fun _ _ _ _ => none
 | k + 1 => ZW (GX k) k
def adu (F0 : T18 α) (G1 : T6 α) : T7 α := fun k a b_ r0 =>
 G1 k a b_
  (fun a2 _ =>
    F0 k a2 fun v =>
    r0 v)
  r0
def Pj : T7 α := adu Jz GX
def IW (F0 : T7 α) : T7 α := fun k a a1 r0 =>
 F0 k a a1 fun v =>
 r0 v
def Ew : T7 α := IW Pj
def yw (F0 : T7 α) : T14 α := fun k a a1 r0 =>
 F0 k a a1 fun v =>
 r0 (decide (v = 1))
def pJ : T14 α := yw Ew
def Vq (F0 : T14 α) (F1 : T14 α) : T14 α := fun k a a1 r0 =>
 F0 k a a1 fun v =>
 bif v then
  F1 k a a1 fun v1 =>
  bif v1 then
   bif decide (0 ≤ a1) then
    bif decide (0 < a1) then
     r0 true
    else
     r0 (decide (a = 1))
   else
    r0 false
  else
   r0 false
 else
  r0 false
def dZ : T14 α := Vq uQ pJ
def IK (F0 : T14 α) : T14 α := fun k a a1 r0 =>
 F0 k a a1 fun v =>
 r0 (!v)
def yV : T14 α := IK dZ
def kW (F0 : T14 α) (g : Int → Int → (List (Int × Int)) → (Int → Int → (List (Int × Int)) → Option α) → (Int → Option α) → Option α) : T15 α := fun k x x1 s1 b0 r0 =>
 bif decide (x1 < x) then
  bif (decide (0 ≤ x1) && decide (x1 < (s1.length : Int))) then
   (s1[x1.toNat]?).bind fun e_ =>
   F0 k e_.1 e_.2 fun v =>
   bif v then
    r0 x1
   else
    g x (w64 (x1 + 1)) s1 b0 r0
  else
   none
 else
  b0 x x1 s1
def gK : T15 α
 | 0 => fun _ _ _ _ _ => none
 | k + 1 => kW yV (gK k) k
def kX (G2 : T15 α) : T16 α := fun k s r0 =>
 G2 k (s.length : Int) 0 s
  (fun _ _ _ =>
    r0 (-1))
  r0
def jW : T16 α := kX gK
def kZ (F0 : T16 α) : T17 α := fun k s r0 =>
 F0 k s fun v =>
 r0 (decide (0 ≤ v))
def jQ : T17 α := kZ jW
def MZ (F0 : T17 α) (F1 : T17 α) : T16 α := fun k list r0 =>
 F0 k list fun v =>
 bif (!v) then
  r0 1
 else
  F1 k list fun v1 =>
  bif v1 then
   r0 2
  else
   r0 0
def jv : T16 α := MZ Fv jQ
def ab2 : T7 α := fun _ a b_ r0 =>
 bif decide (b_ = 0) then
  none
 else
 bif decide (b_ = 0) then
  none
 else
 bif (!decide ((Int.tmod a b_) = 0)) then
  bif (!(decide (a < 0) == decide (b_ < 0))) then
   r0 (w64 ((w64 (Int.tdiv a b_)) - 1))
  else
   r0 (w64 (Int.tdiv a b_))
 else
  r0 (w64 (Int.tdiv a b_))
def JX : T7 α := ab2
def ado (F0 : T7 α) : T7 α := fun k a b_ r0 =>
 F0 k a b_ fun v =>
 r0 (w64 (a - (w64 (b_ * v))))
def Zv : T7 α := ado JX
def Qk (g : Int → Int → Int → Int → Int → (Int → Int → Int → Int → Int → Option α) → (Int → Option α) → Option α) : T19 α := fun _ m1 r_ s x y b0 r0 =>
 bif (!decide (s = 0)) then
  bif decide (s = 0) then
   none
  else
   g m1 s (w64 (r_ - (w64 ((w64 (Int.tdiv r_ s)) * s)))) y (w64 (x - (w64 ((w64 (Int.tdiv r_ s)) * y)))) b0 r0
 else
  b0 m1 r_ s x y
def xK : T19 α
 | 0 => fun _ _ _ _ _ _ _ => none
 | k + 1 => Qk (xK k) k
def aa4 (F0 : T7 α) (G2 : T19 α) : T7 α := fun k a m r0 =>
 F0 k a m fun v =>
 G2 k m v m 1 0
  (fun m2 _ _ x1 _ =>
    F0 k x1 m2 fun v1 =>
    r0 v1)
  r0
def aaE : T7 α := aa4 Zv xK
def sJ : T9 α := fun _ a a1 b_ b_1 k_ r0 =>
 r0 (w64 (a + (w64 (k_ * b_)))) (w64 (a1 + (w64 (k_ * b_1))))
def jy : T9 α := sJ
def Ez (F0 : T9 α) : T20 α := fun k a a1 b_ b_1 r0 =>
 F0 k a a1 b_ b_1 (-1) fun v v1 =>
 r0 v v1
def nX : T20 α := Ez jy
def Nk (F0 : T7 α) (F1 : T20 α) : T21 α := fun k a a1 r0 =>
 F0 k a a1 fun v =>
 bif decide (a1 = 0) then
  none
 else
  F1 k a a1 (w64 (Int.tdiv (w64 ((w64 (a * v)) - 1)) a1)) v fun v1 v2 =>
  r0 (w64 (Int.tdiv (w64 ((w64 (a * v)) - 1)) a1)) v v1 v2
def CY : T21 α := Nk aaE nX
def WX (F0 : T16 α) (F1 : T21 α) : T22 α := fun k a a1 r0 r1 =>
 F0 k [(a, a1)] fun v =>
 bif (!decide (v = 0)) then
  r0 v
 else
 bif decide (a1 < 2) then
  r0 5
 else
  F1 k a a1 fun v1 v2 v3 v4 =>
  r1 [(v1, v2), (v3, v4)] 0
def fQ : T22 α := WX jv CY
def NJ : T12 α := fun _ n_ low high r0 =>
 bif decide (low ≤ n_) then
  r0 (decide (n_ ≤ high))
 else
  r0 false
def zk : T12 α := NJ
def aau (F0 : T12 α) : T13 α := fun k x r0 =>
 F0 k x (-1000000) 1000000 fun v =>
 r0 v
def Sz : T13 α := aau zk
def abL (F0 : T13 α) : T14 α := fun k a a1 r0 =>
 F0 k a fun v =>
 bif v then
  F0 k a1 fun v1 =>
  r0 v1
 else
  r0 false
def qQ : T14 α := abL Sz
def Nq (F0 : T14 α) (g : Int → (List (Int × Int)) → (Int → (List (Int × Int)) → Option α) → (Int → Option α) → Option α) : T23 α := fun k i list1 b0 r0 =>
 bif decide (i < (list1.length : Int)) then
  bif (decide (0 ≤ i) && decide (i < (list1.length : Int))) then
   (list1[i.toNat]?).bind fun e_ =>
   F0 k e_.1 e_.2 fun v =>
   bif (!v) then
    r0 1
   else
    g (w64 (i + 1)) list1 b0 r0
  else
   none
 else
  b0 i list1
def vW : T23 α
 | 0 => fun _ _ _ _ => none
 | k + 1 => Nq qQ (vW k) k
def aar (G2 : T23 α) : T16 α := fun k list r0 =>
 G2 k 0 list
  (fun _ _ =>
    r0 0)
  r0
def LQ : T16 α := aar vW
def abM (F0 : T14 α) (F1 : T7 α) : T14 α := fun k a a1 r0 =>
 F0 k a a1 fun v =>
 bif v then
  F1 k a a1 fun v1 =>
  bif decide (v1 = 1) then
   bif decide (0 < a1) then
    r0 true
   else
   bif decide (a1 = 0) then
    r0 (decide (a = 1))
   else
    r0 false
  else
   r0 false
 else
  r0 false
def Bz : T14 α := abM qQ CV
def Ny (F1 : T14 α) (g : Int → (List (Int × Int)) → (Int → (List (Int × Int)) → Option α) → (Int → Option α) → Option α) : T23 α := fun k i list1 b0 r0 =>
 bif decide (i < (list1.length : Int)) then
  bif (decide (0 ≤ i) && decide (i < (list1.length : Int))) then
   (list1[i.toNat]?).bind fun e_ =>
   F1 k e_.1 e_.2 fun v1 =>
   bif (!v1) then
    r0 2
   else
    g (w64 (i + 1)) list1 b0 r0
  else
   none
 else
  b0 i list1
def vX : T23 α
 | 0 => fun _ _ _ _ => none
 | k + 1 => Ny Bz (vX k) k
def aay (F0 : T16 α) (G5 : T23 α) : T16 α := fun k list r0 =>
 F0 k list fun v =>
 bif (!decide (v = 0)) then
  r0 v
 else
  G5 k 0 list
   (fun _ _ =>
     r0 0)
   r0
def rq : T16 α := aay LQ vX
def Zz : T7 α := fun _ n_ x r0 =>
 bif decide (n_ = 0) then
  none
 else
 bif decide (n_ = 0) then
  none
 else
  r0 (Int.tmod (w64 ((Int.tmod x n_) + n_)) n_)
def MW : T7 α := Zz
def PW (g : Int → Int → Int → Int → Int → Int → Int → Int → Int → (Int → Int → Int → Int → Int → Int → Int → Int → Int → Option α) → (Int → Int → Option α) → Option α) : T24 α := fun _ n_ x before rest next a2 a3 x1 x2 b0 r0 =>
 bif (!decide (next = 0)) then
  bif decide (next = 0) then
   none
  else
   g n_ before (w64 (x - (w64 ((w64 (Int.tdiv rest next)) * before)))) next (w64 (rest - (w64 ((w64 (Int.tdiv rest next)) * next)))) a2 a3 x1 x2 b0 r0
 else
  b0 n_ x before rest next a2 a3 x1 x2
def vJ : T24 α
 | 0 => fun _ _ _ _ _ _ _ _ _ _ _ => none
 | k + 1 => PW (vJ k) k
def MJ (F0 : T7 α) (G5 : T24 α) : T8 α := fun k a a1 r0 =>
 bif decide (a = 0) then
  r0 (w64 (0 - a1)) 0
 else
  F0 k (max a (w64 (0 - a))) a1 fun v =>
  G5 k (max a (w64 (0 - a))) 1 0 v (max a (w64 (0 - a))) a a1 0 0
   (fun n_1 x3 _ _ _ a4 a5 _ _ =>
     F0 k n_1 (w64 (0 - x3)) fun v1 =>
     bif decide (a4 = 0) then
      none
     else
      r0 v1 (w64 (Int.tdiv (w64 (1 + (w64 (a5 * v1)))) a4)))
   r0
def zK : T8 α := MJ MW vJ
def VY (F0 : T8 α) (F1 : T9 α) : T21 α := fun k a a1 r0 =>
 F0 k a1 a fun v v1 =>
 F1 k a a1 v1 v (-1) fun v2 v3 =>
 r0 v2 v3 v1 v
def Iy : T21 α := VY zK iW
def XJ (F0 : T16 α) (F1 : T21 α) : T22 α := fun k a a1 r0 r1 =>
 F0 k [(a, a1)] fun v =>
 bif (!decide (v = 0)) then
  r0 v
 else
 bif decide (a1 < 2) then
  r0 5
 else
  F1 k a a1 fun v1 v2 v3 v4 =>
  r1 [(v1, v2), (v3, v4)] 0
def fZ : T22 α := XJ rq Iy
def YJ : T25 α := fun _ r0 =>
 r0 true
def dQ : T25 α := YJ
def VV (F0 : T14 α) : T14 α := fun k a a1 r0 =>
 F0 k a a1 fun v =>
 r0 v
def dK : T14 α := VV Bz
def FQ (F0 : T2 α) (F1 : T11 α) (F2 : T3 α) : T2 α := fun k code r0 =>
 F0 k code fun v v1 =>
 F1 k code v v1 fun v2 v3 v4 v5 =>
 bif decide (v2 < 0) then
  F2 k code v4 v5 4 fun v6 _ _ =>
  bif decide (0 < v6) then
   r0 (w64 (0 - v2)) v3
  else
   r0 v2 v3
 else
  r0 v2 v3
def dW : T2 α := FQ lJ qW iy
def AZ (g : Int → Int → ByteArray → (Int → Int → ByteArray → Option α) → (ByteArray → Int → Option α) → Option α) : T26 α := fun _ p_ q_ out b0 r0 =>
 bif (!decide (p_ = q_)) then
  bif decide ((((ByteArray.size out) : Nat) : Int) = 60) then
   r0 (bs []) 3
  else
  bif decide (p_ < q_) then
   bif decide (ByteArray.size out + ByteArray.size (bs [76]) ≤ big) then
    g p_ (w64 (q_ - p_)) (out ++ (bs [76])) b0 r0
   else
    none
  else
  bif decide (ByteArray.size out + ByteArray.size (bs [82]) ≤ big) then
   g (w64 (p_ - q_)) q_ (out ++ (bs [82])) b0 r0
  else
   none
 else
  b0 p_ q_ out
def qX : T26 α
 | 0 => fun _ _ _ _ _ => none
 | k + 1 => AZ (qX k) k
def aaZ (F0 : T16 α) (G7 : T26 α) : T27 α := fun k a a1 r0 =>
 F0 k [(a, a1)] fun v =>
 bif (!decide (v = 0)) then
  r0 (bs []) v
 else
 bif decide (a < 1) then
  r0 (bs []) 5
 else
 bif decide (a1 < 1) then
  r0 (bs []) 5
 else
  G7 k a a1 (bs [])
   (fun _ _ out1 =>
     r0 out1 0)
   r0
def gY : T27 α := aaZ jv qX
def Aq (g : ByteArray → Int → Int → (ByteArray → Int → Int → Option α) → (ByteArray → Int → Option α) → Option α) : T28 α := fun _ path p_ q_ b0 r0 =>
 bif (!decide (p_ = q_)) then
  bif decide ((((ByteArray.size path) : Nat) : Int) = 60) then
   r0 (bs []) 3
  else
  bif decide (p_ < q_) then
   bif decide (ByteArray.size path + ByteArray.size (bs [76]) ≤ big) then
    g (path ++ (bs [76])) p_ (w64 (q_ - p_)) b0 r0
   else
    none
  else
  bif decide (ByteArray.size path + ByteArray.size (bs [82]) ≤ big) then
   g (path ++ (bs [82])) (w64 (p_ - q_)) q_ b0 r0
  else
   none
 else
  b0 path p_ q_
def qj : T28 α
 | 0 => fun _ _ _ _ _ => none
 | k + 1 => Aq (qj k) k
def aa7 (F0 : T16 α) (G8 : T28 α) : T27 α := fun k a a1 r0 =>
 F0 k [(a, a1)] fun v =>
 bif (!decide (v = 0)) then
  r0 (bs []) v
 else
 bif decide (a < 1) then
  r0 (bs []) 5
 else
 bif decide (a1 < 1) then
  r0 (bs []) 5
 else
  G8 k (bs []) a a1
   (fun path1 _ _ =>
     r0 path1 0)
   r0
def gX : T27 α := aa7 rq qj
def ZQ (_ : Nat) (s t : ByteArray) (r0 : ByteArray → Option α) : Option α := afS s t r0
def aa6 (F0 : T29 α) : T30 α := fun k path most r0 =>
 bif decide ((((ByteArray.size path) : Nat) : Int) ≤ most) then
  F0 k path (bs [76, 82]) fun v =>
  r0 (decide (v = (bs [])))
 else
  r0 false
def Qq : T30 α := aa6 ZQ
def VX (F0 : T14 α) : T31 α := fun k a a1 r0 =>
 F0 k a a1 fun v =>
 bif (!v) then
  r0 0 0 3
 else
  r0 a a1 0
def qw : T31 α := VX uQ
def BJ (F1 : T9 α) (g : ByteArray → Int → Int → Int → Int → Int → Int → Int → Int → (ByteArray → Int → Int → Int → Int → Int → Int → Int → Int → Option α) → (Int → Int → Int → Option α) → Option α) : T32 α := fun k path1 x x1 x2 x3 l l1 r_ r_1 b0 r0 =>
 bif decide (x1 < x) then
  bif (decide (0 ≤ (w64 (x1 + 1))) && decide ((w64 (x1 + 1)) ≤ (((ByteArray.size path1) : Nat) : Int))) then
   bif (decide (0 ≤ x1) && decide (x1 ≤ (((w64 (x1 + 1)).toNat : Nat) : Int))) then
    bif decide ((ByteArray.extract path1 x1.toNat ((w64 (x1 + 1)).toNat)) = (bs [76])) then
     F1 k l l1 r_ r_1 1 fun v1 v2 =>
     g path1 x (w64 (x1 + 1)) x2 x3 l l1 v1 v2 b0 r0
    else
     F1 k l l1 r_ r_1 1 fun v3 v4 =>
     g path1 x (w64 (x1 + 1)) x2 x3 v3 v4 r_ r_1 b0 r0
   else
    none
  else
   none
 else
  b0 path1 x x1 x2 x3 l l1 r_ r_1
def nY : T32 α
 | 0 => fun _ _ _ _ _ _ _ _ _ _ _ => none
 | k + 1 => BJ jy (nY k) k
def yZ (F0 : T30 α) (F1 : T9 α) (F2 : T31 α) (G5 : T32 α) : T33 α := fun k path r0 =>
 F0 k path 60 fun v =>
 bif (!v) then
  r0 0 0 2
 else
  G5 k path (((ByteArray.size path) : Nat) : Int) 0 0 0 0 1 1 0
   (fun _ _ _ _ _ l2 l3 r_2 r_3 =>
     F1 k l2 l3 r_2 r_3 1 fun v5 v6 =>
     F2 k v5 v6 fun v7 v8 v9 =>
     r0 v7 v8 v9)
   r0
def ax : T33 α := yZ Qq jy qw nY
def aap (F0 : T13 α) (F1 : T12 α) : T14 α := fun k p_ q_ r0 =>
 F0 k p_ fun v =>
 bif v then
  F1 k q_ 1 1000000 fun v1 =>
  r0 v1
 else
  r0 false
def SV : T14 α := aap Hy DX
def Qx (F0 : T7 α) (g : Int → Int → List Int → (Int → Int → List Int → Option α) → (List Int → Option α) → Option α) : T34 α := fun k p_1 q_1 out b0 r0 =>
 bif (!decide (q_1 = 0)) then
  F0 k p_1 q_1 fun v =>
  bif decide (((List.length out) + 1) ≤ big) then
   g q_1 (w64 (p_1 - (w64 (v * q_1)))) (out ++ [v]) b0 r0
  else
   none
 else
  b0 p_1 q_1 out
def xW : T34 α
 | 0 => fun _ _ _ _ _ => none
 | k + 1 => Qx JX (xW k) k
def aaY (G2 : T34 α) : T35 α := fun k p_ q_ r0 =>
 G2 k p_ q_ []
  (fun _ _ out1 =>
    r0 out1)
  r0
def WQ : T35 α := aaY xW
def LZ (F0 : T14 α) (F1 : T35 α) : T36 α := fun k p_ q_ r0 r1 =>
 F0 k p_ q_ fun v =>
 bif (!v) then
  r0 2
 else
  F1 k p_ q_ fun v1 =>
  r1 v1 0
def bV : T36 α := LZ SV WQ
def adG : T37 α := fun _ r0 =>
 r0 0
def gz : T37 α := adG
def Uk (F0 : T3 α) (F1 : T4 α) : T3 α := fun k s s1 s2 most r0 =>
 F0 k s s1 s2 14 fun v v1 v2 =>
 bif decide (v = 0) then
  F1 k s v1 v2 [(-1), (w64 (most + 1)), 1099511627776, (-4611686018427387904)] fun v3 v4 v5 =>
  r0 v3 v4 v5
 else
  F0 k s v1 v2 (w64 (most + 1)) fun v6 v7 v8 =>
  r0 v6 v7 v8
def NW : T3 α := Uk iy oz
def Nj (F0 : T2 α) (F1 : T3 α) : T38 α := fun k code r0 =>
 F0 k code fun v v1 =>
 F1 k code v v1 15 fun v2 _ _ =>
 r0 (w64 (1 + v2))
def bY : T38 α := Nj lJ NW
def abg : T39 α := fun _ a a1 b_ b_1 r0 =>
 r0 (w64 ((w64 (a * b_1)) - (w64 (a1 * b_))))
def KJ : T39 α := abg
def VK : T13 α := fun _ x r0 =>
 r0 (!decide (x = x))
def Rj : T13 α := VK
def Qv (F0 : T13 α) : T7 α := fun k x y r0 =>
 F0 k x fun v =>
 F0 k y fun v1 =>
 bif v then
  bif v1 then
   r0 0
  else
   r0 (-1)
 else
 bif v1 then
  r0 1
 else
 bif decide (x < y) then
  r0 (-1)
 else
 bif decide (y < x) then
  r0 1
 else
  r0 0
def Kv : T7 α := Qv Rj
def TQ (F0 : T39 α) (F1 : T7 α) : T39 α := fun k a a1 b_ b_1 r0 =>
 F0 k a a1 b_ b_1 fun v =>
 F1 k v 0 fun v1 =>
 r0 v1
def wX : T39 α := TQ KJ Kv
noncomputable def iJ (k : Nat) (x : List (Int × Int)) (r0 : (List (Int × Int)) → Option α) : Option α := ahR (fun (p q : Int × Int) => wX k p.1 p.2 q.1 q.2) x r0
def JY (F1 : T7 α) (g : Int → Int → Int → (List (Int × Int)) → (Int → Int → Int → (List (Int × Int)) → Option α) → (Int → Option α) → ((List (Int × Int)) → Int → Option α) → Option α) : T41 α := fun k n_2 q_1 p_ out1 b2 r0 r1 =>
 bif decide (p_ ≤ q_1) then
  F1 k p_ q_1 fun v1 =>
  bif decide (v1 = 1) then
   bif decide (((List.length out1) + 1) ≤ big) then
    g n_2 q_1 (w64 (p_ + 1)) (out1 ++ [(p_, q_1)]) b2 r0 r1
   else
    none
  else
   g n_2 q_1 (w64 (p_ + 1)) out1 b2 r0 r1
 else
  b2 n_2 q_1 p_ out1
noncomputable def qJ : T41 α
 | 0 => fun _ _ _ _ _ _ _ => none
 | k + 1 => JY Pj (qJ k) k
def JQ (G8 : T41 α) (g : Int → Int → (List (Int × Int)) → (Int → Int → (List (Int × Int)) → Option α) → (Int → Option α) → ((List (Int × Int)) → Int → Option α) → Option α) : T42 α := fun k n_1 q_ out b0 r0 r1 =>
 bif decide (q_ ≤ n_1) then
  G8 k n_1 q_ 0 out
   (fun n_3 q_2 _ out2 =>
     g n_3 (w64 (q_2 + 1)) out2 b0 r0 r1)
   r0 r1
 else
  b0 n_1 q_ out
noncomputable def pz : T42 α
 | 0 => fun _ _ _ _ _ _ => none
 | k + 1 => JQ qJ (pz k) k
def IJ (F0 : T12 α) (F2 : T40 α) (G5 : T42 α) : T43 α := fun k n_ r0 r1 =>
 F0 k n_ 1 16 fun v =>
 bif (!v) then
  r0 2
 else
  G5 k n_ 1 []
   (fun _ _ out3 =>
     F2 k out3 fun v2 =>
     r1 v2 0)
   r0 r1
noncomputable def dY : T43 α := IJ DX iJ pz
def JJ (F1 : T9 α) (g : Int → Int → (List (Int × Int)) → (Int → Int → (List (Int × Int)) → Option α) → (Int → Option α) → ((List (Int × Int)) → Int → Option α) → Option α) : T42 α := fun k n_1 k_ out b0 r0 r1 =>
 bif (decide (0 ≤ k_) && decide (k_ < (out.length : Int))) then
  (out[k_.toNat]?).bind fun e_ =>
  bif (decide (0 ≤ k_) && decide (k_ < (out.length : Int))) then
   (out[k_.toNat]?).bind fun e_1 =>
   bif (!decide (e_.1 = e_1.2)) then
    bif (decide (0 ≤ (w64 (k_ - 1))) && decide ((w64 (k_ - 1)) < (out.length : Int))) then
     (out[(w64 (k_ - 1)).toNat]?).bind fun e_2 =>
     bif (decide (0 ≤ k_) && decide (k_ < (out.length : Int))) then
      (out[k_.toNat]?).bind fun e_3 =>
      bif decide (e_3.2 = 0) then
       none
      else
      bif (decide (0 ≤ (w64 (k_ - 1))) && decide ((w64 (k_ - 1)) < (out.length : Int))) then
       (out[(w64 (k_ - 1)).toNat]?).bind fun e_4 =>
       bif (decide (0 ≤ (w64 (k_ - 1))) && decide ((w64 (k_ - 1)) < (out.length : Int))) then
        (out[(w64 (k_ - 1)).toNat]?).bind fun e_5 =>
        bif (decide (0 ≤ k_) && decide (k_ < (out.length : Int))) then
         (out[k_.toNat]?).bind fun e_6 =>
         F1 k (w64 (0 - e_4.1)) (w64 (0 - e_5.2)) e_6.1 e_6.2 (w64 (Int.tdiv (w64 (n_1 + e_2.2)) e_3.2)) fun v1 v2 =>
         bif decide (((List.length out) + 1) ≤ big) then
          g n_1 (w64 (k_ + 1)) (out ++ [(v1, v2)]) b0 r0 r1
         else
          none
        else
         none
       else
        none
      else
       none
     else
      none
    else
     none
   else
    b0 n_1 k_ out
  else
   none
 else
  none
def sZ : T42 α
 | 0 => fun _ _ _ _ _ _ => none
 | k + 1 => JJ iW (sZ k) k
def Hq (F0 : T12 α) (G5 : T42 α) : T43 α := fun k n_ r0 r1 =>
 F0 k n_ 1 16 fun v =>
 bif (!v) then
  r0 2
 else
  G5 k n_ 1 [(0, 1), (1, n_)]
   (fun _ _ out1 =>
     r1 out1 0)
   r0 r1
def dV : T43 α := Hq zk sZ
def Bq (F0 : T3 α) : T44 α := fun k s s1 s2 t r0 =>
 F0 k s s1 s2 10 fun v v1 v2 =>
 bif (decide (0 ≤ v) && decide (v < 10)) then
  ([(bs [48]), (bs [49]), (bs [50]), (bs [57]), (bs [44]), (bs [59]), (bs [45]), (bs [32]), (bs [120]), (bs [10])][v.toNat]?).bind fun e_ =>
  bif decide ((((ByteArray.size t) : Nat) : Int) = 0) then
   r0 e_ v1 v2
  else
   F0 k s v1 v2 (((ByteArray.size t) : Nat) : Int) fun v3 v4 v5 =>
   F0 k s v4 v5 3 fun v6 v7 v8 =>
   bif decide (v6 = 0) then
    bif (decide (0 ≤ v3) && decide (v3 ≤ (((ByteArray.size t) : Nat) : Int))) then
     bif decide (ByteArray.size (ByteArray.extract t 0 v3.toNat) + ByteArray.size e_ ≤ big) then
      bif (decide (0 ≤ (w64 (v3 + 1))) && decide ((w64 (v3 + 1)) ≤ (((ByteArray.size t) : Nat) : Int))) then
       bif decide (ByteArray.size ((ByteArray.extract t 0 v3.toNat) ++ e_) + ByteArray.size (ByteArray.extract t ((w64 (v3 + 1)).toNat) (ByteArray.size t)) ≤ big) then
        r0 (((ByteArray.extract t 0 v3.toNat) ++ e_) ++ (ByteArray.extract t ((w64 (v3 + 1)).toNat) (ByteArray.size t))) v7 v8
       else
        none
      else
       none
     else
      none
    else
     none
   else
   bif decide (v6 = 1) then
    bif (decide (0 ≤ v3) && decide (v3 ≤ (((ByteArray.size t) : Nat) : Int))) then
     bif (decide (0 ≤ (w64 (v3 + 1))) && decide ((w64 (v3 + 1)) ≤ (((ByteArray.size t) : Nat) : Int))) then
      bif decide (ByteArray.size (ByteArray.extract t 0 v3.toNat) + ByteArray.size (ByteArray.extract t ((w64 (v3 + 1)).toNat) (ByteArray.size t)) ≤ big) then
       r0 ((ByteArray.extract t 0 v3.toNat) ++ (ByteArray.extract t ((w64 (v3 + 1)).toNat) (ByteArray.size t))) v7 v8
      else
       none
     else
      none
    else
     none
   else
   bif (decide (0 ≤ v3) && decide (v3 ≤ (((ByteArray.size t) : Nat) : Int))) then
    bif decide (ByteArray.size (ByteArray.extract t 0 v3.toNat) + ByteArray.size e_ ≤ big) then
     bif (decide (0 ≤ v3) && decide (v3 ≤ (((ByteArray.size t) : Nat) : Int))) then
      bif decide (ByteArray.size ((ByteArray.extract t 0 v3.toNat) ++ e_) + ByteArray.size (ByteArray.extract t v3.toNat (ByteArray.size t)) ≤ big) then
       r0 (((ByteArray.extract t 0 v3.toNat) ++ e_) ++ (ByteArray.extract t v3.toNat (ByteArray.size t))) v7 v8
      else
       none
     else
      none
    else
     none
   else
    none
 else
  none
def uX : T44 α := Bq iy
def oZ (F2 : T3 α) (g : ByteArray → Int → Int → Int → Int → List Int → (ByteArray → Int → Int → Int → Int → List Int → Option α) → (ByteArray → Option α) → Option α) : T45 α := fun k out turn n_ s s1 b_ b0 r0 =>
 bif decide (0 < n_) then
  F2 k b_ s s1 (w64 (turn + 1)) fun v11 v12 v13 =>
  bif decide (v11 = 0) then
   bif decide (ByteArray.size out + ByteArray.size (bs [82]) ≤ big) then
    g (out ++ (bs [82])) turn (w64 (n_ - 1)) v12 v13 b_ b0 r0
   else
    none
  else
  bif decide (ByteArray.size out + ByteArray.size (bs [76]) ≤ big) then
   g (out ++ (bs [76])) turn (w64 (n_ - 1)) v12 v13 b_ b0 r0
  else
   none
 else
  b0 out turn n_ s s1 b_
def jw : T45 α
 | 0 => fun _ _ _ _ _ _ _ _ => none
 | k + 1 => oZ iy (jw k) k
def yX (F0 : T2 α) (F1 : T4 α) (F2 : T3 α) (F3 : T44 α) (G4 : T45 α) : T46 α := fun k code r0 =>
 F0 k code fun v v1 =>
 F1 k code v v1 [1, 2, 5] fun v2 v3 v4 =>
 F1 k code v3 v4 [5, 12, 62] fun v5 v6 v7 =>
 F2 k code v6 v7 v5 fun v8 v9 v10 =>
 G4 k (bs []) v2 v8 v9 v10 code
  (fun out1 _ _ s2 s3 b_1 =>
    F2 k b_1 s2 s3 24 fun v14 v15 v16 =>
    bif decide (v14 = 0) then
     F3 k b_1 v15 v16 out1 fun v17 _ _ =>
     r0 v17
    else
     r0 out1)
  r0
def aK : T46 α := yX lJ oz iy uX jw
def aaq (F0 : T14 α) : T31 α := fun k a a1 r0 =>
 F0 k a a1 fun v =>
 bif (!v) then
  r0 0 0 3
 else
  r0 a a1 0
def tK : T31 α := aaq qQ
def Az (g : ByteArray → Int → Int → Int → (ByteArray → Int → Int → Int → Option α) → (Int → Int → Int → Option α) → Option α) : T47 α := fun _ path1 i x x1 b0 r0 =>
 bif decide (i < (((ByteArray.size path1) : Nat) : Int)) then
  bif decide (0 ≤ i) then
   (((ByteArray.data path1).toList)[i.toNat]?).bind fun c =>
   bif (!decide (((c.toNat : Nat) : Int) = 76)) then
    bif decide (0 ≤ i) then
     (((ByteArray.data path1).toList)[i.toNat]?).bind fun c1 =>
     bif (!decide (((c1.toNat : Nat) : Int) = 82)) then
      r0 0 0 2
     else
      g path1 (w64 (i + 1)) x x1 b0 r0
    else
     none
   else
    g path1 (w64 (i + 1)) x x1 b0 r0
  else
   none
 else
  b0 path1 i x x1
def mZ : T47 α
 | 0 => fun _ _ _ _ _ _ => none
 | k + 1 => Az (mZ k) k
def zY (F0 : T9 α) (F1 : T14 α) (g : ByteArray → Int → Int → Int → Int → Int → Int → Int → (ByteArray → Int → Int → Int → Int → Int → Int → Int → Option α) → (Int → Int → Int → Option α) → Option α) : T48 α := fun k path3 i2 x4 x5 left left1 right right1 b2 r0 =>
 bif decide (i2 < (((ByteArray.size path3) : Nat) : Int)) then
  F0 k left left1 right right1 1 fun v v1 =>
  bif decide (0 ≤ i2) then
   (((ByteArray.data path3).toList)[i2.toNat]?).bind fun c2 =>
   bif decide (((c2.toNat : Nat) : Int) = 76) then
    F1 k v v1 fun v2 =>
    bif (!v2) then
     r0 0 0 3
    else
     g path3 (w64 (i2 + 1)) x4 x5 left left1 v v1 b2 r0
   else
    F1 k v v1 fun v3 =>
    bif (!v3) then
     r0 0 0 3
    else
     g path3 (w64 (i2 + 1)) x4 x5 v v1 right right1 b2 r0
  else
   none
 else
  b2 path3 i2 x4 x5 left left1 right right1
def lX : T48 α
 | 0 => fun _ _ _ _ _ _ _ _ _ _ => none
 | k + 1 => zY iW qQ (lX k) k
def yJ (F0 : T9 α) (F2 : T31 α) (G4 : T47 α) (G10 : T48 α) : T33 α := fun k path r0 =>
 bif decide (60 < (((ByteArray.size path) : Nat) : Int)) then
  r0 0 0 2
 else
  G4 k path 0 0 0
   (fun path2 _ x2 x3 =>
     G10 k path2 0 x2 x3 0 1 1 0
      (fun _ _ _ _ left2 left3 right2 right3 =>
        F0 k left2 left3 right2 right3 1 fun v4 v5 =>
        F2 k v4 v5 fun v6 v7 v8 =>
        r0 v6 v7 v8)
      r0)
   r0
def ak : T33 α := yJ iW tK mZ lX
def aaj (F0 : T4 α) : T49 α := fun k s s1 s2 r0 =>
 F0 k s s1 s2 [3, 6, 12, 100, 1000, 1000000] fun v v1 v2 =>
 r0 v v1 v2
def Gy : T49 α := aaj oz
def YV (F0 : T49 α) (F1 : T5 α) (F2 : T10 α) : T11 α := fun k s s1 s2 r0 =>
 F0 k s s1 s2 fun v v1 v2 =>
 F1 k s v1 v2 v fun v3 v4 v5 v6 =>
 F2 k s v5 v6 v3 v4 fun v7 v8 v9 v10 =>
 r0 v7 v8 v9 v10
def Px : T11 α := YV Gy uy Bj
def wV (F0 : T2 α) (F1 : T3 α) (F2 : T11 α) (F3 : T49 α) (F4 : T5 α) : T2 α := fun k code r0 =>
 F0 k code fun v v1 =>
 F1 k code v v1 4 fun v2 v3 v4 =>
 bif decide (v2 = 0) then
  F2 k code v3 v4 fun v5 v6 _ _ =>
  r0 v5 v6
 else
  F3 k code v3 v4 fun v9 v10 v11 =>
  F4 k code v10 v11 v9 fun v12 v13 _ _ =>
  r0 v12 v13
def aV : T2 α := wV lJ iy Px Gy oJ
def NZ (F0 : T20 α) : T8 α := fun k a a1 r0 =>
 bif decide (a1 < 0) then
  F0 k 0 0 a a1 fun v v1 =>
  r0 v v1
 else
 bif decide (a1 = 0) then
  bif decide (a < 0) then
   F0 k 0 0 a a1 fun v2 v3 =>
   r0 v2 v3
  else
   r0 a a1
 else
  r0 a a1
def oQ : T8 α := NZ nX
def KW (F0 : T14 α) (F1 : T14 α) (F2 : T8 α) : T31 α := fun k a a1 r0 =>
 F0 k a a1 fun v =>
 bif (!v) then
  r0 0 0 1
 else
  F1 k a a1 fun v1 =>
  bif (!v1) then
   r0 0 0 5
  else
   F2 k a a1 fun v2 v3 =>
   r0 v2 v3 0
def bW : T31 α := KW uQ pJ oQ
def Jv (F0 : T14 α) (F1 : T7 α) (F2 : T8 α) : T31 α := fun k a a1 r0 =>
 F0 k a a1 fun v =>
 bif (!v) then
  r0 0 0 1
 else
  F1 k a a1 fun v1 =>
  bif (!decide (v1 = 1)) then
   r0 0 0 5
  else
   F2 k a a1 fun v2 v3 =>
   r0 v2 v3 0
def bJ : T31 α := Jv qQ CV lW
def Iq (F0 : T11 α) (F1 : T14 α) (F2 : T3 α) (F3 : T8 α) (F4 : T9 α) (F5 : T8 α) : T50 α := fun k s s1 s2 r0 =>
 F0 k s s1 s2 fun v v1 v2 v3 =>
 F1 k v v1 fun v4 =>
 bif (!v4) then
  F0 k s v2 v3 fun v5 v6 v7 v8 =>
  r0 v v1 v5 v6 v7 v8
 else
  F2 k s v2 v3 3 fun v9 v10 v11 =>
  bif decide (v9 = 0) then
   F0 k s v10 v11 fun v12 v13 v14 v15 =>
   r0 v v1 v12 v13 v14 v15
  else
   F3 k v v1 fun v16 v17 =>
   F2 k s v10 v11 7 fun v18 v19 v20 =>
   F4 k v16 v17 v v1 (w64 (v18 - 3)) fun v21 v22 =>
   F5 k v21 v22 fun v23 v24 =>
   F2 k s v19 v20 2 fun v25 v26 v27 =>
   bif decide (v25 = 0) then
    r0 v23 v24 v v1 v26 v27
   else
    r0 v v1 v23 v24 v26 v27
def uZ : T50 α := Iq qW Bz iy zK iW lW
def mX (F0 : T2 α) (F1 : T50 α) (F2 : T3 α) (F3 : T11 α) (F4 : T9 α) (F5 : T8 α) : T51 α := fun k code r0 =>
 F0 k code fun v v1 =>
 F1 k code v v1 fun v2 v3 v4 v5 v6 v7 =>
 F2 k code v6 v7 8 fun v8 v9 v10 =>
 bif decide (v8 = 0) then
  F3 k code v9 v10 fun v11 v12 _ _ =>
  r0 v2 v3 v4 v5 v11 v12
 else
 bif decide (v8 = 1) then
  bif decide (v8 = 1) then
   F4 k v2 v3 v4 v5 (-1) fun v15 v16 =>
   F5 k v15 v16 fun v17 v18 =>
   r0 v2 v3 v4 v5 v17 v18
  else
   F4 k v2 v3 v4 v5 1 fun v19 v20 =>
   F5 k v19 v20 fun v21 v22 =>
   r0 v2 v3 v4 v5 v21 v22
 else
 bif decide (v8 = 2) then
  bif decide (v8 = 2) then
   F4 k v2 v3 v4 v5 (-1) fun v23 v24 =>
   F5 k v23 v24 fun v25 v26 =>
   r0 v2 v3 v4 v5 v25 v26
  else
   F4 k v2 v3 v4 v5 1 fun v27 v28 =>
   F5 k v27 v28 fun v29 v30 =>
   r0 v2 v3 v4 v5 v29 v30
 else
 bif decide (v8 = 3) then
  F4 k v2 v3 v4 v5 (-1) fun v31 v32 =>
  F5 k v31 v32 fun v33 v34 =>
  r0 v2 v3 v4 v5 v33 v34
 else
  F4 k v2 v3 v4 v5 1 fun v35 v36 =>
  F5 k v35 v36 fun v37 v38 =>
  r0 v2 v3 v4 v5 v37 v38
def aW : T51 α := mX lJ uZ iy qW iW lW
def VW (F0 : T39 α) (F1 : T18 α) : T52 α := fun k a a1 b_ b_1 r0 =>
 F0 k a a1 b_ b_1 fun v =>
 F1 k v fun v1 =>
 r0 (decide (v1 = 1))
def tJ : T52 α := VW KJ Jz
def KX (F0 : T16 α) (F1 : T9 α) (F2 : T8 α) (F3 : T20 α) (F4 : T52 α) (F5 : T31 α) : T53 α := fun k a a1 b_ b_1 c c1 r0 =>
 F0 k [(a, a1), (b_, b_1), (c, c1)] fun v =>
 bif (!decide (v = 0)) then
  r0 0 0 v
 else
  F1 k a a1 b_ b_1 1 fun v1 v2 =>
  F2 k v1 v2 fun v3 v4 =>
  F3 k a a1 b_ b_1 fun v5 v6 =>
  F2 k v5 v6 fun v7 v8 =>
  F4 k a a1 b_ b_1 fun v9 =>
  bif v9 then
   bif (decide (c = v3) && decide (c1 = v4)) then
    F5 k v7 v8 fun v10 v11 v12 =>
    r0 v10 v11 v12
   else
    F4 k a a1 b_ b_1 fun v13 =>
    bif v13 then
     bif (decide (c = v7) && decide (c1 = v8)) then
      F5 k v3 v4 fun v14 v15 v16 =>
      r0 v14 v15 v16
     else
      r0 0 0 5
    else
     r0 0 0 5
  else
   F4 k a a1 b_ b_1 fun v17 =>
   bif v17 then
    bif (decide (c = v7) && decide (c1 = v8)) then
     F5 k v3 v4 fun v18 v19 v20 =>
     r0 v18 v19 v20
    else
     r0 0 0 5
   else
    r0 0 0 5
def ay : T53 α := KX jv jy oQ nX tJ qw
def aa0 : T39 α := fun _ a a1 b_ b_1 r0 =>
 r0 (w64 ((w64 (a * b_1)) - (w64 (a1 * b_))))
def Vx : T39 α := aa0
def aak (F0 : T39 α) : T52 α := fun k a a1 b_ b_1 r0 =>
 F0 k a a1 b_ b_1 fun v =>
 bif decide (v = 1) then
  r0 true
 else
  r0 (decide (v = (-1)))
def Hw : T52 α := aak Vx
def KZ (F0 : T16 α) (F1 : T9 α) (F2 : T8 α) (F3 : T52 α) (F4 : T31 α) : T53 α := fun k a a1 b_ b_1 c c1 r0 =>
 F0 k [(a, a1), (b_, b_1), (c, c1)] fun v =>
 bif (!decide (v = 0)) then
  r0 0 0 v
 else
  F1 k a a1 b_ b_1 1 fun v1 v2 =>
  F2 k v1 v2 fun v3 v4 =>
  F1 k a a1 b_ b_1 (-1) fun v5 v6 =>
  F2 k v5 v6 fun v7 v8 =>
  F3 k a a1 b_ b_1 fun v9 =>
  bif (!v9) then
   r0 0 0 5
  else
  bif (!(decide (c = v3) && decide (c1 = v4))) then
   bif (!(decide (c = v7) && decide (c1 = v8))) then
    r0 0 0 5
   else
   bif (decide (c = v3) && decide (c1 = v4)) then
    F4 k v7 v8 fun v10 v11 v12 =>
    r0 v10 v11 v12
   else
    F4 k v3 v4 fun v13 v14 v15 =>
    r0 v13 v14 v15
  else
  bif (decide (c = v3) && decide (c1 = v4)) then
   F4 k v7 v8 fun v16 v17 v18 =>
   r0 v16 v17 v18
  else
   F4 k v3 v4 fun v19 v20 v21 =>
   r0 v19 v20 v21
def bZ : T53 α := KZ rq iW lW Hw tK
def EJ (F0 : T2 α) (F1 : T50 α) : T54 α := fun k code r0 =>
 F0 k code fun v v1 =>
 F1 k code v v1 fun v2 v3 v4 v5 _ _ =>
 r0 v2 v3 v4 v5
def aY : T54 α := EJ lJ uZ
def Yj (F0 : T16 α) (F1 : T52 α) (F2 : T9 α) (F3 : T8 α) (F4 : T31 α) : T55 α := fun k a a1 b_ b_1 k_ r0 =>
 F0 k [(a, a1), (b_, b_1)] fun v =>
 bif (!decide (v = 0)) then
  r0 0 0 v
 else
  F1 k a a1 b_ b_1 fun v1 =>
  bif (!v1) then
   r0 0 0 5
  else
   F2 k a a1 b_ b_1 k_ fun v2 v3 =>
   F3 k v2 v3 fun v4 v5 =>
   F4 k v4 v5 fun v6 v7 v8 =>
   r0 v6 v7 v8
def EX : T55 α := Yj jv tJ jy oQ qw
def CZ (F0 : T55 α) : T56 α := fun k a a1 b_ b_1 r0 =>
 F0 k a a1 b_ b_1 1 fun v v1 v2 =>
 r0 v v1 v2
def az : T56 α := CZ EX
def aax (F0 : T16 α) (F1 : T52 α) (F2 : T9 α) (F3 : T8 α) (F4 : T31 α) : T55 α := fun k a a1 b_ b_1 k_ r0 =>
 F0 k [(a, a1), (b_, b_1)] fun v =>
 bif decide (v = 0) then
  F1 k a a1 b_ b_1 fun v1 =>
  bif (!v1) then
   r0 0 0 5
  else
  bif (!decide (v = 0)) then
   r0 0 0 v
  else
   F2 k a a1 b_ b_1 k_ fun v2 v3 =>
   F3 k v2 v3 fun v4 v5 =>
   F4 k v4 v5 fun v6 v7 v8 =>
   r0 v6 v7 v8
 else
 bif (!decide (v = 0)) then
  r0 0 0 v
 else
  F2 k a a1 b_ b_1 k_ fun v9 v10 =>
  F3 k v9 v10 fun v11 v12 =>
  F4 k v11 v12 fun v13 v14 v15 =>
  r0 v13 v14 v15
def IZ : T55 α := aax rq Hw iW lW tK
def KY (F0 : T55 α) : T56 α := fun k a a1 b_ b_1 r0 =>
 F0 k a a1 b_ b_1 1 fun v v1 v2 =>
 r0 v v1 v2
def bQ : T56 α := KY IZ
def wJ (F0 : T2 α) (F1 : T50 α) : T54 α := fun k code r0 =>
 F0 k code fun v v1 =>
 F1 k code v v1 fun v2 v3 v4 v5 _ _ =>
 r0 v2 v3 v4 v5
def aQ : T54 α := wJ lJ uZ
def tX (F0 : T55 α) : T56 α := fun k a a1 b_ b_1 r0 =>
 F0 k a a1 b_ b_1 (-1) fun v v1 v2 =>
 r0 v v1 v2
def aJ : T56 α := tX EX
def Aj (F0 : T55 α) : T56 α := fun k a a1 b_ b_1 r0 =>
 F0 k a a1 b_ b_1 (-1) fun v v1 v2 =>
 r0 v v1 v2
def aZ : T56 α := Aj IZ
def aa8 : T17 α := fun _ b_ r0 =>
 bif (!decide (0 = (b_.length : Int))) then
  r0 false
 else
  r0 true
def fK : T17 α := aa8
def ZK : T57 α := fun _ i a1 b0 _ =>
 bif decide (i < (a1.length : Int)) then
  bif (decide (0 ≤ i) && decide (i < (a1.length : Int))) then
   (a1[i.toNat]?).bind fun _ =>
   none
  else
   none
 else
  b0 i a1
def JK : T57 α
 | 0 => fun _ _ _ _ => none
 | k + 1 => ZK k
def abb (G4 : T57 α) : T17 α := fun k a r0 =>
 bif (!decide ((a.length : Int) = 0)) then
  r0 false
 else
  G4 k 0 a
   (fun _ _ =>
     r0 true)
   r0
def gQ : T17 α := abb JK
def Oq (F0 : T17 α) (F1 : T39 α) : T20 α := fun k a a1 b_ b_1 r0 =>
 F0 k [(a, a1), (b_, b_1)] fun v =>
 bif (!v) then
  r0 0 1
 else
  F1 k a a1 b_ b_1 fun v1 =>
  r0 v1 0
def cZ : T20 α := Oq Fv KJ
def Ox (g : Int → (List (Int × Int)) → (List (Int × Int)) → (Int → (List (Int × Int)) → (List (Int × Int)) → Option α) → (Bool → Option α) → Option α) : T58 α := fun _ i a1 b_1 b0 r0 =>
 bif decide (i < (a1.length : Int)) then
  bif (decide (0 ≤ i) && decide (i < (a1.length : Int))) then
   (a1[i.toNat]?).bind fun e_ =>
   bif (decide (0 ≤ i) && decide (i < (b_1.length : Int))) then
    (b_1[i.toNat]?).bind fun e_1 =>
    bif (!(decide (e_.1 = e_1.1) && decide (e_.2 = e_1.2))) then
     r0 false
    else
     g (w64 (i + 1)) a1 b_1 b0 r0
   else
    none
  else
   none
 else
  b0 i a1 b_1
def vZ : T58 α
 | 0 => fun _ _ _ _ _ => none
 | k + 1 => Ox (vZ k) k
def aaw (G4 : T58 α) : T59 α := fun k a b_ r0 =>
 bif (!decide ((a.length : Int) = (b_.length : Int))) then
  r0 false
 else
  G4 k 0 a b_
   (fun _ _ _ =>
     r0 true)
   r0
def gJ : T59 α := aaw vZ
def Xx (g : Int → Int → List Int → (Int → Int → List Int → Option α) → (Int → Option α) → Option α) : T60 α := fun _ n_ i list1 b0 r0 =>
 bif decide (i < (list1.length : Int)) then
  bif (decide (0 ≤ i) && decide (i < (list1.length : Int))) then
   (list1[i.toNat]?).bind fun e_ =>
   g (w64 (n_ + e_)) (w64 (i + 1)) list1 b0 r0
  else
   none
 else
  b0 n_ i list1
def GV : T60 α
 | 0 => fun _ _ _ _ _ => none
 | k + 1 => Xx (GV k) k
def acZ (G3 : T60 α) : T38 α := fun k list r0 =>
 G3 k 0 0 list
  (fun n_1 _ _ =>
    r0 n_1)
  r0
def iY : T38 α := acZ GV
def PZ (F0 : T16 α) (F1 : T52 α) : T61 α := fun k a a1 b_ b_1 r0 =>
 F0 k [(a, a1), (b_, b_1)] fun v =>
 bif (!decide (v = 0)) then
  r0 false v
 else
  F1 k a a1 b_ b_1 fun v1 =>
  r0 v1 0
def bz : T61 α := PZ jv tJ
def vk (F16 : T20 α) (g : Int → List Int → (List (Int × Int)) → (Int → List Int → (List (Int × Int)) → Option α) → (Bool → Option α) → Option α) : T62 α := fun k i code1 list b0 r0 =>
 bif decide (i < (list.length : Int)) then
  bif (decide (0 ≤ i) && decide (i < (list.length : Int))) then
   (list[i.toNat]?).bind fun e_ =>
   bif (decide (0 ≤ (w64 (i - 1))) && decide ((w64 (i - 1)) < (list.length : Int))) then
    (list[(w64 (i - 1)).toNat]?).bind fun e_1 =>
    F16 k e_.1 e_.2 e_1.1 e_1.2 fun v23 v24 =>
    bif (!decide (v24 = 0)) then
     r0 false
    else
    bif (!decide (v23 = 1)) then
     r0 false
    else
     g (w64 (i + 1)) code1 list b0 r0
   else
    none
  else
   none
 else
  b0 i code1 list
noncomputable def aj : T62 α
 | 0 => fun _ _ _ _ _ => none
 | k + 1 => vk cZ (aj k) k
def AY (F0 : Nat → List Int → (Bool → Option α) → Option α) (F1 : Nat → List Int → (Int → Int → Option α) → Option α) (F2 : Nat → Int → Int → (Int → Option α) → ((List (Int × Int)) → Int → Option α) → Option α) (k : Nat) (code : List Int) (κ5 : Int → List Int → Int → Int → (List (Int × Int)) → Option α) (r0 : Bool → Option α) : Option α :=
 F0 k code fun v =>
 bif v then
  r0 true
 else
  F1 k code fun v1 v2 =>
  F2 k v1 v2
   (fun v3 =>
     κ5 v3 code v1 v2 [])
   (fun v4 v5 =>
     κ5 v5 code v1 v2 v4)
def uK (F3 : Nat → Int → Int → (Int → Option α) → ((List (Int × Int)) → Int → Option α) → Option α) (k : Nat) (one : Int) (code1 : List Int) (a : Int) (a1 : Int) (parents : List (Int × Int)) (κ6 : Int → Int → List Int → Int → Int → (List (Int × Int)) → (List (Int × Int)) → Option α) (r0 : Bool → Option α) : Option α :=
 F3 k a a1
  (fun v6 =>
    κ6 one v6 code1 a a1 parents [])
  (fun v7 v8 =>
    κ6 one v8 code1 a a1 parents v7)
def zQ (F5 : Nat → Int → Int → (Bool → Option α) → Option α) (F6 : Nat → Int → Int → (Bool → Option α) → Option α) (F33 : Nat → (List (Int × Int)) → (List (Int × Int)) → (Bool → Option α) → Option α) (k : Nat) (one1 : Int) (two : Int) (code2 : List Int) (a2 : Int) (a3 : Int) (parents1 : List (Int × Int)) (want : List (Int × Int)) (κ7 : Option α) (κ8 : Int → List Int → Int → Int → (List (Int × Int)) → Option α) (r0 : Bool → Option α) : Option α :=
 bif (!decide (one1 = two)) then
  κ7
 else
  F33 k parents1 want fun v9 =>
  bif (!v9) then
   κ7
  else
   F5 k a2 a3 fun v10 =>
   F6 k a2 a3 fun v11 =>
   bif (!(v10 == v11)) then
    κ7
   else
    κ8 one1 code2 a2 a3 parents1
def FY (k : Nat)  (r0 : Bool → Option α) : Option α :=
 r0 false
def uj (F35 : Nat → Int → Int → Int → Int → (Bool → Int → Option α) → Option α) (k : Nat) (one2 : Int) (code3 : List Int) (a4 : Int) (a5 : Int) (parents2 : List (Int × Int)) (κ10 : Bool → Int → List Int → Int → Int → (List (Int × Int)) → Option α) (κ15 : List Int → Option α) (r0 : Bool → Option α) : Option α :=
 bif decide (one2 = 0) then
  bif (true && decide (0 < (parents2.length : Int))) then
   (parents2[0]?).bind fun e_ =>
   bif (true && decide (1 < (parents2.length : Int))) then
    (parents2[1]?).bind fun e_1 =>
    F35 k e_.1 e_.2 e_1.1 e_1.2 fun v12 v13 =>
    κ10 v12 v13 code3 a4 a5 parents2
   else
    none
  else
   none
 else
  κ15 code3
def zx (F23 : Nat → Int → Int → Int → Int → Int → Int → (Int → Int → Int → Option α) → Option α) (F26 : Nat → Int → Int → Int → Int → (Int → Int → Int → Option α) → Option α) (F29 : Nat → Int → Int → Int → Int → (Int → Int → Int → Option α) → Option α) (k : Nat) (near : Bool) (three : Int) (code4 : List Int) (a6 : Int) (a7 : Int) (parents3 : List (Int × Int)) (κ14 : Option α) (κ15 : List Int → Option α) (r0 : Bool → Option α) : Option α :=
 bif (true && decide (0 < (parents3.length : Int))) then
  (parents3[0]?).bind fun e_2 =>
  bif (true && decide (1 < (parents3.length : Int))) then
   (parents3[1]?).bind fun e_3 =>
   F26 k e_2.1 e_2.2 e_3.1 e_3.2 fun v14 v15 v16 =>
   bif (true && decide (0 < (parents3.length : Int))) then
    (parents3[0]?).bind fun e_4 =>
    bif (true && decide (1 < (parents3.length : Int))) then
     (parents3[1]?).bind fun e_5 =>
     F29 k e_4.1 e_4.2 e_5.1 e_5.2 fun v17 v18 v19 =>
     bif (true && decide (0 < (parents3.length : Int))) then
      (parents3[0]?).bind fun e_6 =>
      bif (true && decide (1 < (parents3.length : Int))) then
       (parents3[1]?).bind fun e_7 =>
       F23 k e_6.1 e_6.2 e_7.1 e_7.2 v14 v15 fun v20 v21 v22 =>
       bif (!decide (three = 0)) then
        κ14
       else
       bif (!decide (v16 = 0)) then
        κ14
       else
       bif (!decide (v19 = v22)) then
        κ14
       else
       bif (!near) then
        κ14
       else
       bif (!(decide (v14 = a6) && decide (v15 = a7))) then
        κ14
       else
       bif (!(decide (v20 = v17) && decide (v21 = v18))) then
        κ14
       else
        κ15 code4
      else
       none
     else
      none
    else
     none
   else
    none
  else
   none
 else
  none
def FW (k : Nat)  (r0 : Bool → Option α) : Option α :=
 r0 false
def yx (F7 : Nat → List Int → (Int → Int → Option α) → Option α) (F8 : Nat → Int → Int → (ByteArray → Int → Option α) → Option α) (F9 : Nat → Int → Int → (ByteArray → Int → Option α) → Option α) (k : Nat) (code5 : List Int) (κ19 : Option α) (κ20 : ByteArray → Int → List Int → Int → Int → Option α) (r0 : Bool → Option α) : Option α :=
 F7 k code5 fun v23 v24 =>
 F8 k v23 v24 fun v25 v26 =>
 F9 k v23 v24 fun v27 v28 =>
 bif (!decide (v26 = v28)) then
  κ19
 else
 bif (!decide (v25 = v27)) then
  κ19
 else
  κ20 v25 v26 code5 v23 v24
def Fq (k : Nat)  (r0 : Bool → Option α) : Option α :=
 r0 false
def AQ (F10 : Nat → ByteArray → (Int → Int → Int → Option α) → Option α) (F11 : Nat → Int → Int → (Int → Option α) → (List Int → Int → Option α) → Option α) (k : Nat) (path : ByteArray) (seven : Int) (code6 : List Int) (b_ : Int) (b_1 : Int) (κ23 : ByteArray → Int → Int → List Int → Int → Int → Int → Int → List Int → Option α) (κ25 : List Int → Option α) (r0 : Bool → Option α) : Option α :=
 bif decide (seven = 0) then
  F10 k path fun v29 v30 v31 =>
  F11 k b_ b_1
   (fun v32 =>
     κ23 path v31 v32 code6 b_ b_1 v29 v30 [])
   (fun v33 v34 =>
     κ23 path v31 v34 code6 b_ b_1 v29 v30 v33)
 else
  κ25 code6
def yQ (F34 : Nat → List Int → (Int → Option α) → Option α) (k : Nat) (path1 : ByteArray) (nine : Int) (ten : Int) (code7 : List Int) (b_2 : Int) (b_3 : Int) (back : Int) (Fz : Int) (list : List Int) (κ24 : Option α) (κ25 : List Int → Option α) (r0 : Bool → Option α) : Option α :=
 bif (!decide (nine = 0)) then
  κ24
 else
 bif (!decide (ten = 0)) then
  κ24
 else
 bif (!(decide (back = b_2) && decide (Fz = b_3))) then
  κ24
 else
  F34 k list fun v35 =>
  bif (!decide (v35 = (w64 ((((ByteArray.size path1) : Nat) : Int) + 1)))) then
   κ24
  else
   κ25 code7
def DY (k : Nat)  (r0 : Bool → Option α) : Option α :=
 r0 false
def xY (F13 : Nat → List Int → (Int → Option α) → Option α) (F14 : Nat → Int → (Int → Option α) → ((List (Int × Int)) → Int → Option α) → Option α) (k : Nat) (code8 : List Int) (κ27 : Int → Int → List Int → (List (Int × Int)) → Option α) (r0 : Bool → Option α) : Option α :=
 F13 k code8 fun v36 =>
 F14 k v36
  (fun v37 =>
    κ27 v36 v37 code8 [])
  (fun v38 v39 =>
    κ27 v36 v39 code8 v38)
def tV (F15 : Nat → Int → (Int → Option α) → ((List (Int × Int)) → Int → Option α) → Option α) (k : Nat) (n_ : Int) (eleven : Int) (code9 : List Int) (list1 : List (Int × Int)) (κ28 : Int → Int → List Int → (List (Int × Int)) → (List (Int × Int)) → Option α) (r0 : Bool → Option α) : Option α :=
 F15 k n_
  (fun v40 =>
    κ28 eleven v40 code9 list1 [])
  (fun v41 v42 =>
    κ28 eleven v42 code9 list1 v41)
def xy (F33 : Nat → (List (Int × Int)) → (List (Int × Int)) → (Bool → Option α) → Option α) (k : Nat) (eleven1 : Int) (twelve : Int) (code10 : List Int) (list2 : List (Int × Int)) (own : List (Int × Int)) (κ29 : Option α) (κ30 : List Int → (List (Int × Int)) → Option α) (r0 : Bool → Option α) : Option α :=
 bif (!decide (eleven1 = twelve)) then
  κ29
 else
  F33 k list2 own fun v43 =>
  bif (!v43) then
   κ29
  else
   κ30 code10 list2
def Dx (k : Nat)  (r0 : Bool → Option α) : Option α :=
 r0 false
def xw (F10 : Nat → ByteArray → (Int → Int → Int → Option α) → Option α) (F17 : Nat → List Int → (ByteArray → Option α) → Option α) (F18 : Nat → ByteArray → (Int → Int → Int → Option α) → Option α) (G31 : Nat → Int → List Int → (List (Int × Int)) → (Int → List Int → (List (Int × Int)) → Option α) → (Bool → Option α) → Option α) (k : Nat) (code11 : List Int) (list3 : List (Int × Int)) (κ40 : Option α) (κ41 : ByteArray → Int → List Int → Int → Int → Option α) (r0 : Bool → Option α) : Option α :=
 G31 k 1 code11 list3
  (fun _ code13 _ =>
    F17 k code13 fun v46 =>
    F10 k v46 fun v47 v48 v49 =>
    F18 k v46 fun v50 v51 v52 =>
    bif (!decide (v49 = v52)) then
     κ40
    else
    bif (!(decide (v47 = v50) && decide (v48 = v51))) then
     κ40
    else
     κ41 v46 v49 code13 v47 v48)
  r0
def DK (k : Nat)  (r0 : Bool → Option α) : Option α :=
 r0 false
def xx (F8 : Nat → Int → Int → (ByteArray → Int → Option α) → Option α) (F19 : Nat → List Int → (Int → Int → Option α) → Option α) (F20 : Nat → Int → Int → (Int → Int → Int → Option α) → Option α) (F21 : Nat → Int → Int → (Int → Int → Int → Option α) → Option α) (F22 : Nat → List Int → (Int → Int → Int → Int → Int → Int → Option α) → Option α) (F23 : Nat → Int → Int → Int → Int → Int → Int → (Int → Int → Int → Option α) → Option α) (F24 : Nat → Int → Int → Int → Int → Int → Int → (Int → Int → Int → Option α) → Option α) (F25 : Nat → List Int → (Int → Int → Int → Int → Option α) → Option α) (F26 : Nat → Int → Int → Int → Int → (Int → Int → Int → Option α) → Option α) (F27 : Nat → Int → Int → Int → Int → (Int → Int → Int → Option α) → Option α) (F28 : Nat → List Int → (Int → Int → Int → Int → Option α) → Option α) (F29 : Nat → Int → Int → Int → Int → (Int → Int → Int → Option α) → Option α) (F30 : Nat → Int → Int → Int → Int → (Int → Int → Int → Option α) → Option α) (k : Nat) (text : ByteArray) (fourteen : Int) (code14 : List Int) (c : Int) (c1 : Int) (κ44 : Option α) (κ57 : Int → Int → Int → Int → Int → Int → Int → Int → Int → Int → Int → Int → Int → Int → Int → Int → Int → Int → Int → Int → Int → Int → Int → Int → Option α) (r0 : Bool → Option α) : Option α :=
 bif decide (fourteen = 0) then
  F8 k c c1 fun v53 v54 =>
  bif (!decide (v54 = 0)) then
   κ44
  else
  bif (!decide (v53 = text)) then
   κ44
  else
   F19 k code14 fun v55 v56 =>
   F20 k v55 v56 fun v57 v58 v59 =>
   F21 k v55 v56 fun v60 v61 v62 =>
   F22 k code14 fun v63 v64 v65 v66 v67 v68 =>
   F23 k v63 v64 v65 v66 v67 v68 fun v69 v70 v71 =>
   F24 k v63 v64 v65 v66 v67 v68 fun v72 v73 v74 =>
   F25 k code14 fun v75 v76 v77 v78 =>
   F26 k v75 v76 v77 v78 fun v79 v80 v81 =>
   F27 k v75 v76 v77 v78 fun v82 v83 v84 =>
   F28 k code14 fun v85 v86 v87 v88 =>
   F29 k v85 v86 v87 v88 fun v89 v90 v91 =>
   F30 k v85 v86 v87 v88 fun v92 v93 v94 =>
   κ57 v59 v62 v71 v74 v81 v84 v91 v94 v57 v58 v60 v61 v69 v70 v72 v73 v79 v80 v82 v83 v89 v90 v92 v93
 else
  F19 k code14 fun v95 v96 =>
  F20 k v95 v96 fun v97 v98 v99 =>
  F21 k v95 v96 fun v100 v101 v102 =>
  F22 k code14 fun v103 v104 v105 v106 v107 v108 =>
  F23 k v103 v104 v105 v106 v107 v108 fun v109 v110 v111 =>
  F24 k v103 v104 v105 v106 v107 v108 fun v112 v113 v114 =>
  F25 k code14 fun v115 v116 v117 v118 =>
  F26 k v115 v116 v117 v118 fun v119 v120 v121 =>
  F27 k v115 v116 v117 v118 fun v122 v123 v124 =>
  F28 k code14 fun v125 v126 v127 v128 =>
  F29 k v125 v126 v127 v128 fun v129 v130 v131 =>
  F30 k v125 v126 v127 v128 fun v132 v133 v134 =>
  κ57 v99 v102 v111 v114 v121 v124 v131 v134 v97 v98 v100 v101 v109 v110 v112 v113 v119 v120 v122 v123 v129 v130 v132 v133
def Dz (k : Nat)  (r0 : Bool → Option α) : Option α :=
 r0 false
def xZ (k : Nat) (seventeen : Int) (eighteen : Int) (nineteen : Int) (twenty : Int) (first : Int) (second : Int) (third : Int) (fourth : Int) (e_10 : Int) (e_11 : Int) (other : Int) (other1 : Int) (k_ : Int) (k_1 : Int) (end_ : Int) (end_1 : Int) (total : Int) (total1 : Int) (last : Int) (last1 : Int) (less : Int) (less1 : Int) (done : Int) (done1 : Int) (r0 : Bool → Option α) : Option α :=
 bif decide (seventeen = eighteen) then
  bif (decide (e_10 = other) && decide (e_11 = other1)) then
   bif decide (nineteen = twenty) then
    bif (decide (k_ = end_) && decide (k_1 = end_1)) then
     bif decide (first = second) then
      bif (decide (total = last) && decide (total1 = last1)) then
       bif decide (third = fourth) then
        r0 (decide (less = done) && decide (less1 = done1))
       else
        r0 false
      else
       r0 false
     else
      r0 false
    else
     r0 false
   else
    r0 false
  else
   r0 false
 else
  r0 false
noncomputable def xk (k : Nat) (seventeen : Int) (eighteen : Int) (nineteen : Int) (twenty : Int) (first : Int) (second : Int) (third : Int) (fourth : Int) (e_10 : Int) (e_11 : Int) (other : Int) (other1 : Int) (k_ : Int) (k_1 : Int) (end_ : Int) (end_1 : Int) (total : Int) (total1 : Int) (last : Int) (last1 : Int) (less : Int) (less1 : Int) (done : Int) (done1 : Int) (r0 : Bool → Option α) : Option α :=
 xZ k seventeen eighteen nineteen twenty first second third fourth e_10 e_11 other other1 k_ k_1 end_ end_1 total total1 last last1 less less1 done done1 r0
noncomputable def NV (k : Nat)  (r0 : Bool → Option α) : Option α :=
 Dz k r0
noncomputable def wz (k : Nat) (text : ByteArray) (fourteen : Int) (code14 : List Int) (c : Int) (c1 : Int) (r0 : Bool → Option α) : Option α :=
 xx gY aV bW bJ aW ay bZ aY az bQ aQ aJ aZ k text fourteen code14 c c1 (NV k r0) (fun seventeen eighteen nineteen twenty first second third fourth e_10 e_11 other other1 k_ k_1 end_ end_1 total total1 last last1 less less1 done done1 => xk k seventeen eighteen nineteen twenty first second third fourth e_10 e_11 other other1 k_ k_1 end_ end_1 total total1 last last1 less less1 done done1 r0) r0
noncomputable def NQ (k : Nat)  (r0 : Bool → Option α) : Option α :=
 DK k r0
noncomputable def xJ (k : Nat) (code11 : List Int) (list3 : List (Int × Int)) (r0 : Bool → Option α) : Option α :=
 xw ax aK ak aj k code11 list3 (NQ k r0) (fun text fourteen code14 c c1 => wz k text fourteen code14 c c1 r0) r0
noncomputable def MX (k : Nat)  (r0 : Bool → Option α) : Option α :=
 Dx k r0
noncomputable def xQ (k : Nat) (eleven1 : Int) (twelve : Int) (code10 : List Int) (list2 : List (Int × Int)) (own : List (Int × Int)) (r0 : Bool → Option α) : Option α :=
 xy gJ k eleven1 twelve code10 list2 own (MX k r0) (fun code11 list3 => xJ k code11 list3 r0) r0
noncomputable def qK (k : Nat) (n_ : Int) (eleven : Int) (code9 : List Int) (list1 : List (Int × Int)) (r0 : Bool → Option α) : Option α :=
 tV dV k n_ eleven code9 list1 (fun eleven1 twelve code10 list2 own => xQ k eleven1 twelve code10 list2 own r0) r0
noncomputable def qY (k : Nat) (code8 : List Int) (r0 : Bool → Option α) : Option α :=
 xY bY dY k code8 (fun n_ eleven code9 list1 => qK k n_ eleven code9 list1 r0) r0
noncomputable def MK (k : Nat)  (r0 : Bool → Option α) : Option α :=
 DY k r0
noncomputable def Dq (k : Nat) (path1 : ByteArray) (nine : Int) (ten : Int) (code7 : List Int) (b_2 : Int) (b_3 : Int) (back : Int) (Fz : Int) (list : List Int) (r0 : Bool → Option α) : Option α :=
 yQ iY k path1 nine ten code7 b_2 b_3 back Fz list (MK k r0) (fun code8 => qY k code8 r0) r0
noncomputable def zW (k : Nat) (path : ByteArray) (seven : Int) (code6 : List Int) (b_ : Int) (b_1 : Int) (r0 : Bool → Option α) : Option α :=
 AQ ax bV k path seven code6 b_ b_1 (fun path1 nine ten code7 b_2 b_3 back Fz list => Dq k path1 nine ten code7 b_2 b_3 back Fz list r0) (fun code8 => qY k code8 r0) r0
noncomputable def Oz (k : Nat)  (r0 : Bool → Option α) : Option α :=
 Fq k r0
noncomputable def rY (k : Nat) (code5 : List Int) (r0 : Bool → Option α) : Option α :=
 yx dW gY gX k code5 (Oz k r0) (fun path seven code6 b_ b_1 => zW k path seven code6 b_ b_1 r0) r0
noncomputable def OV (k : Nat)  (r0 : Bool → Option α) : Option α :=
 FW k r0
noncomputable def Fj (k : Nat) (near : Bool) (three : Int) (code4 : List Int) (a6 : Int) (a7 : Int) (parents3 : List (Int × Int)) (r0 : Bool → Option α) : Option α :=
 zx ay az aJ k near three code4 a6 a7 parents3 (OV k r0) (fun code5 => rY k code5 r0) r0
noncomputable def rV (k : Nat) (one2 : Int) (code3 : List Int) (a4 : Int) (a5 : Int) (parents2 : List (Int × Int)) (r0 : Bool → Option α) : Option α :=
 uj bz k one2 code3 a4 a5 parents2 (fun near three code4 a6 a7 parents3 => Fj k near three code4 a6 a7 parents3 r0) (fun code5 => rY k code5 r0) r0
noncomputable def OQ (k : Nat)  (r0 : Bool → Option α) : Option α :=
 FY k r0
noncomputable def rW (k : Nat) (one1 : Int) (two : Int) (code2 : List Int) (a2 : Int) (a3 : Int) (parents1 : List (Int × Int)) (want : List (Int × Int)) (r0 : Bool → Option α) : Option α :=
 zQ dZ dK gJ k one1 two code2 a2 a3 parents1 want (OQ k r0) (fun one2 code3 a4 a5 parents2 => rV k one2 code3 a4 a5 parents2 r0) r0
noncomputable def rQ (k : Nat) (one : Int) (code1 : List Int) (a : Int) (a1 : Int) (parents : List (Int × Int)) (r0 : Bool → Option α) : Option α :=
 uK fZ k one code1 a a1 parents (fun one1 two code2 a2 a3 parents1 want => rW k one1 two code2 a2 a3 parents1 want r0) r0
noncomputable def Nz (k : Nat) (code : List Int) (r0 : Bool → Option α) : Option α :=
 AY iK bK fQ k code (fun one code1 a a1 parents => rQ k one code1 a a1 parents r0) r0
noncomputable def Ej (k : Nat) (code : List Int) (r0 : Bool → Option α) : Option α := Nz k code r0
end Go.Sh
