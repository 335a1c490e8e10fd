/- The program's functions, read without memory: printed by a program of ours. -/
import Derived.Test.YtiggcnbnidnaiaaMaB
import Derived.Test.YtiggcnbnidnaiaaEvFrac
namespace Go.Sh
open Go Go.Ev
variable {α : Type}
abbrev T0 (α : Type) : Type := Nat → List Int → (Bool → Option α) → Option α
abbrev T1 (α : Type) : Type := Nat → Int → List Int → Int → Int → (Int → List Int → Int → Int → Option α) → (Int → Int → Option α) → Option α
abbrev T2 (α : Type) : Type := Nat → List Int → (Int → Int → Option α) → Option α
abbrev T3 (α : Type) : Type := Nat → List Int → Int → Int → Int → (Int → Int → Int → Option α) → Option α
abbrev T4 (α : Type) : Type := Nat → List Int → Int → Int → List Int → (Int → Int → Int → Option α) → Option α
abbrev T5 (α : Type) : Type := Nat → List Int → Int → Int → Int → (Int → Int → Int → Int → Option α) → Option α
abbrev T6 (α : Type) : Type := Nat → Int → Int → (Int → Int → Option α) → (Int → Option α) → Option α
abbrev T7 (α : Type) : Type := Nat → Int → Int → (Int → Option α) → Option α
abbrev T8 (α : Type) : Type := Nat → Int → Int → (Int → Int → Option α) → Option α
abbrev T9 (α : Type) : Type := Nat → Int → Int → Int → Int → (Int → Option α) → Option α
abbrev T10 (α : Type) : Type := Nat → List Int → Int → Int → Int → (Int → Int → Int → Int → Int → Int → Option α) → Option α
abbrev T11 (α : Type) : Type := Nat → Int → Int → Int → Int → Int → (Int → Int → Option α) → Option α
abbrev T12 (α : Type) : Type := Nat → List Int → Int → Int → Int → Int → (Int → Int → Int → Int → Option α) → Option α
abbrev T13 (α : Type) : Type := Nat → List Int → Int → Int → (Int → Int → Int → Int → Int → Int → Option α) → Option α
abbrev T14 (α : Type) : Type := Nat → List Int → (Int → Int → Int → Int → Option α) → Option α
abbrev T15 (α : Type) : Type := Nat → Int → Int → Int → (Bool → Option α) → Option α
abbrev T16 (α : Type) : Type := Nat → Int → (Bool → Option α) → Option α
abbrev T17 (α : Type) : Type := Nat → Int → Int → (Bool → Option α) → Option α
abbrev T18 (α : Type) : Type := Nat → Int → Int → (List (Int × Int)) → (Int → Int → (List (Int × Int)) → Option α) → (Int → Option α) → Option α
abbrev T19 (α : Type) : Type := Nat → (List (Int × Int)) → (Int → Option α) → Option α
abbrev T20 (α : Type) : Type := Nat → (List (Int × Int)) → (Bool → Option α) → Option α
abbrev T21 (α : Type) : Type := Nat → Int → (Int → Option α) → Option α
abbrev T22 (α : Type) : Type := Nat → Int → Int → Int → Int → (Bool → Option α) → Option α
abbrev T23 (α : Type) : Type := Nat → Int → Int → Int → Int → Int → (Int → Int → Int → Int → Int → Option α) → (Int → Option α) → Option α
abbrev T24 (α : Type) : Type := Nat → Int → Int → Int → Int → (Int → Int → Option α) → Option α
abbrev T25 (α : Type) : Type := Nat → Int → Int → Int → Int → Int → Int → (List (Int × Int)) → List Int → (Int → Option α) → ((List (Int × Int)) → List Int → Int → Option α) → Option α
abbrev T26 (α : Type) : Type := Nat → Int → Int → Int → Int → (Int → Option α) → ((List (Int × Int)) → List Int → Int → Option α) → Option α
abbrev T27 (α : Type) : Type := Nat → Int → Int → Int → Int → (Int → Option α) → ((List (Int × Int)) → Int → Option α) → Option α
abbrev T28 (α : Type) : Type := Nat → Int → Int → Int → Int → Int → Int → Int → Int → Int → (Int → Int → Int → Int → Int → Int → Int → Int → Int → Option α) → (Int → Int → Option α) → Option α
abbrev T29 (α : Type) : Type := Nat → Int → Int → (List (Int × Int)) → List Int → (Bool → Option α) → ((List (Int × Int)) → List Int → Bool → Option α) → Option α
abbrev T30 (α : Type) : Type := Nat → Int → Int → Int → Int → (Bool → Option α) → ((List (Int × Int)) → List Int → Bool → Option α) → Option α
abbrev T31 (α : Type) : Type := Nat → Int → Int → Int → Int → Int → Int → (Int → Option α) → Option α
abbrev T32 (α : Type) : Type := Nat → Int → Int → Int → Int → Int → Int → (Int → Int → Option α) → Option α
abbrev T33 (α : Type) : Type := Nat → Option α
abbrev T34 (α : Type) : Type := Nat → Int → Int → List Int → List Int → (List (Int × Int)) → (Int → Int → List Int → List Int → (List (Int × Int)) → Option α) → (List Int → Option α) → Option α
abbrev T35 (α : Type) : Type := Nat → (List (Int × Int)) → List Int → (List Int → Option α) → Option α
abbrev T36 (α : Type) : Type := Nat → Int → List Int → List Int → (List (Int × Int)) → List Int → (Int → List Int → List Int → (List (Int × Int)) → List Int → Option α) → (List Int → Option α) → Option α
abbrev T37 (α : Type) : Type := Nat → Int → Int → Int → Int → (Int → Option α) → (List Int → Int → Option α) → Option α
abbrev T38 (α : Type) : Type := Nat → (List (Int × Int)) → Int → (Int → Int → Option α) → Option α
abbrev T39 (α : Type) : Type := Nat → Int → Int → Int → Int → Int → (List (Int × Int)) → Int → Int → Int → Int → (Int → Int → Int → Int → Int → (List (Int × Int)) → Int → Int → Int → Int → Option α) → (Bool → Option α) → Option α
abbrev T40 (α : Type) : Type := Nat → Int → Int → (List (Int × Int)) → (Int → Int → (List (Int × Int)) → Option α) → (Bool → Option α) → Option α
abbrev T41 (α : Type) : Type := Nat → Int → Int → Int → (List (Int × Int)) → (Int → Int → Int → (List (Int × Int)) → Option α) → (Int → Option α) → Option α
abbrev T42 (α : Type) : Type := Nat → (List (Int × Int)) → (Int → Int → Option α) → Option α
abbrev T43 (α : Type) : Type := Nat → Int → Int → (Int → Int → Int → Option α) → Option α
abbrev T44 (α : Type) : Type := Nat → Int → Int → Int → Int → Int → Int → (Int → Int → Int → Option α) → Option α
abbrev T45 (α : Type) : Type := Nat → (Bool → Option α) → Option α
abbrev T46 (α : Type) : Type := Nat → Int → List Int → (Int → List Int → Option α) → (Bool → Option α) → Option α
abbrev T47 (α : Type) : Type := Nat → Int → List Int → List Int → (Int → List Int → List Int → Option α) → (Bool → Option α) → Option α
abbrev T48 (α : Type) : Type := Nat → List Int → List Int → (Bool → Option α) → Option α
def aeu : T0 α := fun _ code r0 =>
 r0 (decide (4096 < (code.length : Int)))
def jZ : T0 α := aeu
def EK (g : Int → List Int → Int → Int → (Int → List Int → Int → Int → Option α) → (Int → Int → Option α) → Option α) : T1 α := fun _ i code1 s s1 b0 r0 =>
 bif decide (i < (code1.length : Int)) then
  bif decide (i < 4096) then
   bif (decide (0 ≤ i) && decide (i < (code1.length : Int))) then
    (code1[i.toNat]?).bind fun e_ =>
    g (w64 (i + 1)) code1 s (IntKind.wrap .u64 ((IntKind.wrap .u64 ((IntKind.wrap .u64 (s1 * 1099511628211)) + (IntKind.wrap .u64 e_))) + 107)) b0 r0
   else
    none
  else
   b0 i code1 s s1
 else
  b0 i code1 s s1
def qX : T1 α
 | 0 => fun _ _ _ _ _ _ => none
 | k + 1 => EK (qX k) k
def abn (G3 : T1 α) : T2 α := fun k code r0 =>
 G3 k 0 code 0 (IntKind.wrap .u64 (12971 + (IntKind.wrap .u64 (code.length : Int))))
  (fun _ _ s2 s3 =>
    r0 s2 s3)
  r0
def SY : T2 α := abn qX
def abj : T3 α := fun _ s s1 s2 n_ r0 =>
 bif decide (n_ < 1) then
  r0 0 s1 s2
 else
 bif decide (s1 < (s.length : Int)) then
  bif (decide (0 ≤ s1) && decide (s1 < (s.length : Int))) then
   (s[s1.toNat]?).bind fun e_ =>
   bif decide (n_ = 0) then
    none
   else
    r0 (Int.tmod (w64 ((w64 (IntKind.wrap .u64 ((BitVec.ofInt 64 (Int.fdiv (IntKind.wrap .u64 ((IntKind.wrap .u64 (s2 * 6364136223846793005)) + 1442695040888963407)) (2 ^ 31)) &&& BitVec.ofInt 64 1073741823).toNat))) + (w64 e_))) n_) (w64 (s1 + 1)) (IntKind.wrap .u64 ((IntKind.wrap .u64 (s2 * 6364136223846793005)) + 1442695040888963407))
  else
   none
 else
 bif decide (n_ = 0) then
  none
 else
  r0 (Int.tmod (w64 (IntKind.wrap .u64 ((BitVec.ofInt 64 (Int.fdiv (IntKind.wrap .u64 ((IntKind.wrap .u64 (s2 * 6364136223846793005)) + 1442695040888963407)) (2 ^ 31)) &&& BitVec.ofInt 64 1073741823).toNat))) n_) s1 (IntKind.wrap .u64 ((IntKind.wrap .u64 (s2 * 6364136223846793005)) + 1442695040888963407))
def lK : T3 α := abj
def VZ (F0 : T3 α) : T4 α := fun k s s1 s2 list r0 =>
 F0 k s s1 s2 (list.length : Int) fun v v1 v2 =>
 bif (decide (0 ≤ v) && decide (v < (list.length : Int))) then
  (list[v.toNat]?).bind fun e_ =>
  r0 e_ v1 v2
 else
  none
def zZ : T4 α := VZ lK
def Hz (F0 : T3 α) : T5 α := fun k s s1 s2 most r0 =>
 F0 k s s1 s2 (w64 ((w64 (2 * most)) + 1)) fun v v1 v2 =>
 F0 k s v1 v2 (w64 ((w64 (2 * most)) + 1)) fun v3 v4 v5 =>
 r0 (w64 (v - most)) (w64 (v3 - most)) v4 v5
def xZ : T5 α := Hz lK
def IX (g : Int → Int → (Int → Int → Option α) → (Int → Option α) → Option α) : T6 α := fun _ a1 b_1 b0 r0 =>
 bif (!decide (b_1 = 0)) then
  bif decide (b_1 = 0) then
   none
  else
   g b_1 (Int.tmod a1 b_1) b0 r0
 else
  b0 a1 b_1
def ry : T6 α
 | 0 => fun _ _ _ _ => none
 | k + 1 => IX (ry k) k
def Xz (G1 : T6 α) : T7 α := fun k a b_ r0 =>
 G1 k a b_
  (fun a2 _ =>
    r0 (max a2 (w64 (0 - a2))))
  r0
def Bv : T7 α := Xz ry
def Uw (F0 : T7 α) : T8 α := fun k a a1 r0 =>
 F0 k a a1 fun v =>
 bif decide (v = 0) then
  none
 else
 bif decide (v = 0) then
  none
 else
  r0 (w64 (Int.tdiv a v)) (w64 (Int.tdiv a1 v))
def Iy : T8 α := Uw Bv
def uJ (F0 : T5 α) (F1 : T8 α) : T5 α := fun k s s1 s2 most r0 =>
 F0 k s s1 s2 most fun v v1 v2 v3 =>
 bif (decide (v = 0) && decide (v1 = 0)) then
  r0 1 0 v2 v3
 else
  F1 k v v1 fun v4 v5 =>
  r0 v4 v5 v2 v3
def oV : T5 α := uJ xZ Iy
def Aj : T9 α := fun _ a a1 b_ b_1 r0 =>
 r0 (w64 ((w64 (a * b_1)) - (w64 (a1 * b_))))
def nV : T9 α := Aj
def Pv (F0 : T5 α) (F1 : T9 α) (F2 : T3 α) : T10 α := fun k s s1 s2 most r0 =>
 F0 k s s1 s2 most fun v v1 v2 v3 =>
 F0 k s v2 v3 most fun v4 v5 v6 v7 =>
 F1 k v v1 v4 v5 fun v8 =>
 bif decide (v8 = 0) then
  F2 k s v6 v7 most fun v9 v10 v11 =>
  r0 1 0 1 (w64 (1 + v9)) v10 v11
 else
 bif decide (v8 < 0) then
  r0 v4 v5 v v1 v6 v7
 else
  r0 v v1 v4 v5 v6 v7
def Dz : T10 α := Pv oV nV lK
def Dw : T11 α := fun _ a a1 b_ b_1 k_ r0 =>
 r0 (w64 (a + (w64 (k_ * b_)))) (w64 (a1 + (w64 (k_ * b_1))))
def qx : T11 α := Dw
def Fz (F0 : T3 α) (F1 : T4 α) : T12 α := fun k s s1 s2 a a1 r0 =>
 F0 k s s1 s2 40 fun v v1 v2 =>
 bif decide (v = 0) then
  F0 k s v1 v2 2 fun v3 v4 v5 =>
  F1 k s v4 v5 [1000001, (-1000001), 1099511627776] fun v6 v7 v8 =>
  bif (decide (0 ≤ v3) && decide (v3 < 2)) then
   ([a, a1][v3.toNat]?).bind fun _ =>
   ((List.set [a, a1] v3.toNat v6)[0]?).bind fun e_ =>
   ((List.set [a, a1] v3.toNat v6)[1]?).bind fun e_1 =>
   r0 e_ e_1 v7 v8
  else
   none
 else
  r0 a a1 v1 v2
def Bj : T12 α := Fz lK zZ
def Uz (F0 : T4 α) (F1 : T10 α) (F2 : T3 α) (F3 : T11 α) (F4 : T12 α) : T13 α := fun k s s1 s2 r0 =>
 F0 k s s1 s2 [3, 6, 12, 12, 100, 1000, 1000000] fun v v1 v2 =>
 F1 k s v1 v2 v fun v3 v4 v5 v6 v7 v8 =>
 F2 k s v7 v8 30 fun v9 v10 v11 =>
 bif decide (v9 = 0) then
  r0 v5 v6 v3 v4 v10 v11
 else
 bif decide (v9 = 1) then
  F3 k v3 v4 v3 v4 1 fun v12 v13 =>
  F4 k s v10 v11 v12 v13 fun v14 v15 v16 v17 =>
  r0 v14 v15 v5 v6 v16 v17
 else
  F4 k s v10 v11 v3 v4 fun v18 v19 v20 v21 =>
  r0 v18 v19 v5 v6 v20 v21
def KJ : T13 α := Uz zZ Dz lK qx Bj
def DY (F0 : T2 α) (F1 : T13 α) : T14 α := fun k code r0 =>
 F0 k code fun v v1 =>
 F1 k code v v1 fun v2 v3 v4 v5 _ _ =>
 r0 v2 v3 v4 v5
def aY : T14 α := DY SY KJ
def acf : T15 α := fun _ n_ low high r0 =>
 bif decide (low ≤ n_) then
  r0 (decide (n_ ≤ high))
 else
  r0 false
def MX : T15 α := acf
def TV (F0 : T15 α) : T16 α := fun k n_ r0 =>
 F0 k n_ (-1000000) 1000000 fun v =>
 r0 v
def Jv : T16 α := TV MX
def UX (F0 : T16 α) : T17 α := fun k a a1 r0 =>
 F0 k a fun v =>
 bif v then
  F0 k a1 fun v1 =>
  r0 v1
 else
  r0 false
def nJ : T17 α := UX Jv
def RJ (F0 : T17 α) : T17 α := fun k a a1 r0 =>
 F0 k a a1 fun v =>
 r0 (!v)
def GZ : T17 α := RJ nJ
def jQ (F0 : T17 α) (g : Int → Int → (List (Int × Int)) → (Int → Int → (List (Int × Int)) → Option α) → (Int → Option α) → Option α) : T18 α := fun k x x1 s1 b0 r0 =>
 bif decide (x1 < x) then
  bif (decide (0 ≤ x1) && decide (x1 < (s1.length : Int))) then
   (s1[x1.toNat]?).bind fun e_ =>
   F0 k e_.1 e_.2 fun v =>
   bif v then
    r0 x1
   else
    g x (w64 (x1 + 1)) s1 b0 r0
  else
   none
 else
  b0 x x1 s1
def bK : T18 α
 | 0 => fun _ _ _ _ _ => none
 | k + 1 => jQ GZ (bK k) k
def jV (G2 : T18 α) : T19 α := fun k s r0 =>
 G2 k (s.length : Int) 0 s
  (fun _ _ _ =>
    r0 (-1))
  r0
def gK : T19 α := jV bK
def iw (F0 : T19 α) : T20 α := fun k s r0 =>
 F0 k s fun v =>
 r0 (decide (0 ≤ v))
def gV : T20 α := iw gK
def Xj (F0 : T20 α) : T20 α := fun k list r0 =>
 F0 k list fun v =>
 r0 (!v)
def pY : T20 α := Xj gV
def aaY : T21 α := fun _ n_ r0 =>
 r0 (max n_ (w64 (0 - n_)))
def vX : T21 α := aaY
def Rq (g : Int → Int → (Int → Int → Option α) → (Int → Option α) → Option α) : T6 α := fun _ a1 b_1 b0 r0 =>
 bif (!decide (b_1 = 0)) then
  bif decide (b_1 = 0) then
   none
  else
   g b_1 (Int.tmod a1 b_1) b0 r0
 else
  b0 a1 b_1
def yJ : T6 α
 | 0 => fun _ _ _ _ => none
 | k + 1 => Rq (yJ k) k
def abE (F0 : T21 α) (G1 : T6 α) : T7 α := fun k a b_ r0 =>
 G1 k a b_
  (fun a2 _ =>
    F0 k a2 fun v =>
    r0 v)
  r0
def aaj : T7 α := abE vX yJ
def Hy (F0 : T7 α) : T7 α := fun k a a1 r0 =>
 F0 k a a1 fun v =>
 r0 v
def CV : T7 α := Hy aaj
def zJ (F0 : T7 α) : T17 α := fun k a a1 r0 =>
 F0 k a a1 fun v =>
 r0 (decide (v = 1))
def vJ : T17 α := zJ CV
def xw : T9 α := fun _ a a1 b_ b_1 r0 =>
 r0 (w64 ((w64 (a * b_1)) - (w64 (a1 * b_))))
def kV : T9 α := xw
def TZ (F0 : T20 α) (F1 : T17 α) (F2 : T9 α) : T22 α := fun k a a1 b_ b_1 r0 =>
 F0 k [(a, a1), (b_, b_1)] fun v =>
 bif v then
  F1 k a a1 fun v1 =>
  bif v1 then
   F1 k b_ b_1 fun v2 =>
   bif v2 then
    F2 k a a1 b_ b_1 fun v3 =>
    r0 (decide (1 ≤ v3))
   else
    r0 false
  else
   r0 false
 else
  r0 false
def fQ : T22 α := TZ pY vJ kV
def Zy : T7 α := fun _ a b_ r0 =>
 bif decide (b_ = 0) then
  none
 else
 bif decide (b_ = 0) then
  none
 else
 bif (!decide ((Int.tmod a b_) = 0)) then
  bif (!(decide (a < 0) == decide (b_ < 0))) then
   r0 (w64 ((w64 (Int.tdiv a b_)) - 1))
  else
   r0 (w64 (Int.tdiv a b_))
 else
  r0 (w64 (Int.tdiv a b_))
def xx : T7 α := Zy
def abV (F0 : T7 α) : T7 α := fun k a b_ r0 =>
 F0 k a b_ fun v =>
 r0 (w64 (a - (w64 (b_ * v))))
def KW : T7 α := abV xx
def Iq (g : Int → Int → Int → Int → Int → (Int → Int → Int → Int → Int → Option α) → (Int → Option α) → Option α) : T23 α := fun _ m1 r_ s x y b0 r0 =>
 bif (!decide (s = 0)) then
  bif decide (s = 0) then
   none
  else
   g m1 s (w64 (r_ - (w64 ((w64 (Int.tdiv r_ s)) * s)))) y (w64 (x - (w64 ((w64 (Int.tdiv r_ s)) * y)))) b0 r0
 else
  b0 m1 r_ s x y
def sQ : T23 α
 | 0 => fun _ _ _ _ _ _ _ => none
 | k + 1 => Iq (sQ k) k
def XQ (F0 : T7 α) (G2 : T23 α) : T7 α := fun k a m r0 =>
 F0 k a m fun v =>
 G2 k m v m 1 0
  (fun m2 _ _ x1 _ =>
    F0 k x1 m2 fun v1 =>
    r0 v1)
  r0
def VX : T7 α := XQ KW sQ
def CW (F0 : T21 α) (F1 : T7 α) (F2 : T7 α) : T8 α := fun k a a1 r0 =>
 bif decide (a = 0) then
  r0 (w64 (0 - a1)) 0
 else
  F0 k a fun v =>
  F1 k a1 v fun v1 =>
  F0 k a fun v2 =>
  F2 k (w64 (0 - v1)) v2 fun v3 =>
  bif decide (a = 0) then
   none
  else
   r0 v3 (w64 (Int.tdiv (w64 (1 + (w64 (a1 * v3)))) a))
def oQ : T8 α := CW vX VX KW
def tX : T11 α := fun _ a a1 b_ b_1 k_ r0 =>
 r0 (w64 (a + (w64 (k_ * b_)))) (w64 (a1 + (w64 (k_ * b_1))))
def kz : T11 α := tX
def xY (F0 : T11 α) : T24 α := fun k a a1 b_ b_1 r0 =>
 F0 k a a1 b_ b_1 (-1) fun v v1 =>
 r0 v v1
def jy : T24 α := xY kz
def IJ (F1 : T9 α) (F2 : T7 α) (F3 : T11 α) (F4 : T17 α) (F5 : T24 α) (g : Int → Int → Int → Int → Int → Int → (List (Int × Int)) → List Int → (Int → Option α) → ((List (Int × Int)) → List Int → Int → Option α) → Option α) : T25 α := fun k b_2 b_3 now now1 before before1 b_4 b_5 r0 r1 =>
 bif decide (((List.length b_4) + 1) ≤ big) then
  bif decide (2000 < (((List.length (b_4 ++ [(now, now1)])) : Nat) : Int)) then
   r0 3
  else
   F4 k now now1 fun v7 =>
   bif (!v7) then
    r0 3
   else
   bif (decide (now = b_2) && decide (now1 = b_3)) then
    bif decide (((List.length b_5) + 1) ≤ big) then
     r1 (b_4 ++ [(now, now1)]) (b_5 ++ [0]) 0
    else
     none
   else
    F1 k before before1 b_2 b_3 fun v8 =>
    F1 k now now1 b_2 b_3 fun v9 =>
    F2 k (w64 (0 - v8)) v9 fun v10 =>
    bif decide (((List.length b_5) + 1) ≤ big) then
     F5 k 0 0 before before1 fun v11 v12 =>
     F3 k v11 v12 now now1 (w64 (0 - v10)) fun v13 v14 =>
     g b_2 b_3 v13 v14 now now1 (b_4 ++ [(now, now1)]) (b_5 ++ [(w64 (0 - v10))]) r0 r1
    else
     none
 else
  none
def rY : T25 α
 | 0 => fun _ _ _ _ _ _ _ _ _ _ => none
 | k + 1 => IJ kV xx kz nJ jy (rY k) k
def XW (F0 : T8 α) (F1 : T9 α) (F2 : T7 α) (F3 : T11 α) (G5 : T25 α) : T26 α := fun k a a1 b_ b_1 r0 r1 =>
 F0 k a a1 fun v v1 =>
 F1 k v v1 b_ b_1 fun v2 =>
 F1 k a a1 b_ b_1 fun v3 =>
 F2 k v2 v3 fun v4 =>
 F3 k v v1 a a1 (w64 (0 - v4)) fun v5 v6 =>
 G5 k b_ b_1 v5 v6 a a1 [(a, a1)] [0]
  r0 r1
def Nw : T26 α := XW oQ kV xx kz rY
def Ox (F0 : T22 α) (F1 : T26 α) : T26 α := fun k a a1 b_ b_1 r0 r1 =>
 F0 k a a1 b_ b_1 fun v =>
 bif (!v) then
  r0 1
 else
  F1 k a a1 b_ b_1
   (fun v1 =>
     r0 v1)
   (fun v2 v3 v4 =>
     r1 v2 v3 v4)
def qZ : T26 α := Ox fQ Nw
def NV (F0 : T26 α) : T27 α := fun k a a1 b_ b_1 r0 r1 =>
 F0 k a a1 b_ b_1
  (fun v =>
    bif (!decide (v = 0)) then
     r0 v
    else
     none)
  (fun v1 _ v3 =>
    bif (!decide (v3 = 0)) then
     r0 v3
    else
     r1 v1 0)
def dQ : T27 α := NV qZ
def aad : T15 α := fun _ n_ low high r0 =>
 bif decide (low ≤ n_) then
  r0 (decide (n_ ≤ high))
 else
  r0 false
def Qq : T15 α := aad
def UQ (F0 : T15 α) : T16 α := fun k x r0 =>
 F0 k x (-1000000) 1000000 fun v =>
 r0 v
def JV : T16 α := UQ Qq
def ZW (F0 : T16 α) : T17 α := fun k a a1 r0 =>
 F0 k a fun v =>
 bif v then
  F0 k a1 fun v1 =>
  r0 v1
 else
  r0 false
def RV : T17 α := ZW JV
def aal (F0 : T17 α) (F1 : T7 α) (F2 : T9 α) : T22 α := fun k a a1 b_ b_1 r0 =>
 F0 k a a1 fun v =>
 bif v then
  F0 k b_ b_1 fun v1 =>
  bif v1 then
   F1 k a a1 fun v2 =>
   bif decide (v2 = 1) then
    F1 k b_ b_1 fun v3 =>
    bif decide (v3 = 1) then
     F2 k a a1 b_ b_1 fun v4 =>
     r0 (decide (1 ≤ v4))
    else
     r0 false
   else
    r0 false
  else
   r0 false
 else
  r0 false
def Ey : T22 α := aal RV Bv nV
def VW : T7 α := fun _ n_ x r0 =>
 bif decide (n_ = 0) then
  none
 else
 bif decide (n_ = 0) then
  none
 else
  r0 (Int.tmod (w64 ((Int.tmod x n_) + n_)) n_)
def Dq : T7 α := VW
def Fq (g : Int → Int → Int → Int → Int → Int → Int → Int → Int → (Int → Int → Int → Int → Int → Int → Int → Int → Int → Option α) → (Int → Int → Option α) → Option α) : T28 α := fun _ n_ x before rest next a2 a3 x1 x2 b0 r0 =>
 bif (!decide (next = 0)) then
  bif decide (next = 0) then
   none
  else
   g n_ before (w64 (x - (w64 ((w64 (Int.tdiv rest next)) * before)))) next (w64 (rest - (w64 ((w64 (Int.tdiv rest next)) * next)))) a2 a3 x1 x2 b0 r0
 else
  b0 n_ x before rest next a2 a3 x1 x2
def qY : T28 α
 | 0 => fun _ _ _ _ _ _ _ _ _ _ _ => none
 | k + 1 => Fq (qY k) k
def MW (F0 : T7 α) (G5 : T28 α) : T8 α := fun k a a1 r0 =>
 bif decide (a = 0) then
  r0 (w64 (0 - a1)) 0
 else
  F0 k (max a (w64 (0 - a))) a1 fun v =>
  G5 k (max a (w64 (0 - a))) 1 0 v (max a (w64 (0 - a))) a a1 0 0
   (fun n_1 x3 _ _ _ a4 a5 _ _ =>
     F0 k n_1 (w64 (0 - x3)) fun v1 =>
     bif decide (a4 = 0) then
      none
     else
      r0 v1 (w64 (Int.tdiv (w64 (1 + (w64 (a5 * v1)))) a4)))
   r0
def sV : T8 α := MW Dq qY
def Sj : T7 α := fun _ p_ q_ r0 =>
 bif decide (q_ = 0) then
  none
 else
 bif decide (q_ = 0) then
  none
 else
 bif (!decide ((Int.tmod p_ q_) = 0)) then
  bif (!(decide (p_ < 0) == decide (q_ < 0))) then
   r0 (w64 ((w64 (Int.tdiv p_ q_)) - 1))
  else
   r0 (w64 (Int.tdiv p_ q_))
 else
  r0 (w64 (Int.tdiv p_ q_))
def wY : T7 α := Sj
def EX (F0 : T9 α) (F2 : T7 α) (F3 : T11 α) (g : Int → Int → (List (Int × Int)) → List Int → (Bool → Option α) → ((List (Int × Int)) → List Int → Bool → Option α) → Option α) : T29 α := fun k b_2 b_3 points numbers r0 r1 =>
 bif decide (2000 < (points.length : Int)) then
  r0 false
 else
 bif (decide (0 ≤ (w64 ((points.length : Int) - 2))) && decide ((w64 ((points.length : Int) - 2)) < (points.length : Int))) then
  (points[(w64 ((points.length : Int) - 2)).toNat]?).bind fun e_ =>
  bif (decide (0 ≤ (w64 ((points.length : Int) - 1))) && decide ((w64 ((points.length : Int) - 1)) < (points.length : Int))) then
   (points[(w64 ((points.length : Int) - 1)).toNat]?).bind fun e_1 =>
   F0 k e_.1 e_.2 b_2 b_3 fun v7 =>
   F0 k e_1.1 e_1.2 b_2 b_3 fun v8 =>
   bif decide (v8 = 0) then
    bif decide (((List.length numbers) + 1) ≤ big) then
     r1 points (numbers ++ [2]) true
    else
     none
   else
    F2 k (w64 (0 - v7)) v8 fun v9 =>
    bif decide (((List.length numbers) + 1) ≤ big) then
     bif (decide (0 ≤ (w64 ((points.length : Int) - 2))) && decide ((w64 ((points.length : Int) - 2)) < (points.length : Int))) then
      (points[(w64 ((points.length : Int) - 2)).toNat]?).bind fun e_2 =>
      bif (decide (0 ≤ (w64 ((points.length : Int) - 2))) && decide ((w64 ((points.length : Int) - 2)) < (points.length : Int))) then
       (points[(w64 ((points.length : Int) - 2)).toNat]?).bind fun e_3 =>
       bif (decide (0 ≤ (w64 ((points.length : Int) - 1))) && decide ((w64 ((points.length : Int) - 1)) < (points.length : Int))) then
        (points[(w64 ((points.length : Int) - 1)).toNat]?).bind fun e_4 =>
        F3 k (w64 (0 - e_2.1)) (w64 (0 - e_3.2)) e_4.1 e_4.2 (w64 (0 - v9)) fun v10 v11 =>
        bif decide (((List.length points) + 1) ≤ big) then
         g b_2 b_3 (points ++ [(v10, v11)]) (numbers ++ [(w64 (0 - v9))]) r0 r1
        else
         none
       else
        none
      else
       none
     else
      none
    else
     none
  else
   none
 else
  none
def qK : T29 α
 | 0 => fun _ _ _ _ _ _ => none
 | k + 1 => EX nV wY qx (qK k) k
def Uj (F0 : T9 α) (F1 : T8 α) (F2 : T7 α) (F3 : T11 α) (G5 : T29 α) : T30 α := fun k a a1 b_ b_1 r0 r1 =>
 F0 k a a1 b_ b_1 fun v =>
 F1 k a a1 fun v1 v2 =>
 F0 k v1 v2 b_ b_1 fun v3 =>
 F2 k v3 v fun v4 =>
 F3 k v1 v2 a a1 (w64 (0 - v4)) fun v5 v6 =>
 G5 k b_ b_1 [(a, a1), (v5, v6)] [2]
  r0 r1
def JY : T30 α := Uj nV sV wY qx qK
def UW (F0 : T22 α) (F1 : T30 α) : T26 α := fun k a a1 b_ b_1 r0 r1 =>
 F0 k a a1 b_ b_1 fun v =>
 bif (!v) then
  r0 1
 else
  F1 k a a1 b_ b_1
   (fun v1 =>
     bif (!v1) then
      r0 3
     else
      r0 0)
   (fun v2 v3 v4 =>
     bif (!v4) then
      r0 3
     else
      r1 v2 v3 0)
def JX : T26 α := UW Ey JY
def NW (F0 : T26 α) : T27 α := fun k a a1 b_ b_1 r0 r1 =>
 F0 k a a1 b_ b_1
  (fun v =>
    r0 v)
  (fun v1 _ v3 =>
    r1 v1 v3)
def cZ : T27 α := NW JX
def TJ (F0 : T22 α) : T22 α := fun k a a1 b_ b_1 r0 =>
 F0 k a a1 b_ b_1 fun v =>
 r0 v
def fJ : T22 α := TJ Ey
def FW (F0 : T20 α) (F1 : T9 α) : T24 α := fun k a a1 b_ b_1 r0 =>
 F0 k [(a, a1), (b_, b_1)] fun v =>
 bif (!v) then
  r0 0 1
 else
  F1 k a a1 b_ b_1 fun v1 =>
  r0 v1 0
def aj : T24 α := FW pY kV
def PV (F0 : T26 α) : T24 α := fun k a a1 b_ b_1 r0 =>
 F0 k a a1 b_ b_1
  (fun v =>
    bif (!decide (v = 0)) then
     r0 0 v
    else
     none)
  (fun v1 _ v3 =>
    bif (!decide (v3 = 0)) then
     r0 0 v3
    else
     r0 (w64 ((v1.length : Int) - 1)) 0)
def dZ : T24 α := PV qZ
def aaU (F0 : T24 α) (F1 : T9 α) (F2 : T21 α) : T31 α := fun k a a1 b_ b_1 c c1 r0 =>
 F0 k b_ b_1 a a1 fun v v1 =>
 F0 k c c1 a a1 fun v2 v3 =>
 F1 k v v1 v2 v3 fun v4 =>
 F2 k v4 fun v5 =>
 r0 v5
def aaE : T31 α := aaU jy kV vX
def XX (F0 : T20 α) (F1 : T31 α) : T32 α := fun k a a1 b_ b_1 c c1 r0 =>
 F0 k [(a, a1), (b_, b_1), (c, c1)] fun v =>
 bif (!v) then
  r0 0 1
 else
  F1 k a a1 b_ b_1 c c1 fun v1 =>
  r0 v1 0
def fZ : T32 α := XX pY aaE
def NJ : T33 α := fun _ =>
 none
def DK : T33 α := NJ
def NQ (F0 : T33 α) : T33 α := fun k =>
 F0 k
def Dx : T33 α := NQ DK
def sJ (g : Int → Int → List Int → List Int → (List (Int × Int)) → (Int → Int → List Int → List Int → (List (Int × Int)) → Option α) → (List Int → Option α) → Option α) : T34 α := fun _ x x1 out x2 b_ b0 r0 =>
 bif decide (x1 < x) then
  bif (decide (0 ≤ x1) && decide (x1 < (x2.length : Int))) then
   (x2[x1.toNat]?).bind fun e_ =>
   bif decide (x1 = 0) then
    bif decide (((List.length out) + 1) ≤ big) then
     g x (w64 (x1 + 1)) (out ++ [x1]) x2 b_ b0 r0
    else
     none
   else
   bif decide (x1 = (w64 ((x2.length : Int) - 1))) then
    bif decide (((List.length out) + 1) ≤ big) then
     g x (w64 (x1 + 1)) (out ++ [x1]) x2 b_ b0 r0
    else
     none
   else
   bif decide (2 < e_) then
    bif decide (((List.length out) + 1) ≤ big) then
     g x (w64 (x1 + 1)) (out ++ [x1]) x2 b_ b0 r0
    else
     none
   else
    g x (w64 (x1 + 1)) out x2 b_ b0 r0
  else
   none
 else
  b0 x x1 out x2 b_
def jv : T34 α
 | 0 => fun _ _ _ _ _ _ _ => none
 | k + 1 => sJ (jv k) k
def AQ (G3 : T34 α) : T35 α := fun k s s1 r0 =>
 G3 k (s1.length : Int) 0 [] s1 s
  (fun _ _ out1 _ _ =>
    r0 out1)
  r0
def oK : T35 α := AQ jv
def nz (g : Int → List Int → List Int → (List (Int × Int)) → List Int → (Int → List Int → List Int → (List (Int × Int)) → List Int → Option α) → (List Int → Option α) → Option α) : T36 α := fun _ k_ out list b_ b_1 b0 r0 =>
 bif decide (k_ < (list.length : Int)) then
  bif decide (1 < k_) then
   bif (decide (0 ≤ (w64 (k_ - 1))) && decide ((w64 (k_ - 1)) < (list.length : Int))) then
    (list[(w64 (k_ - 1)).toNat]?).bind fun e_ =>
    bif (decide (0 ≤ e_) && decide (e_ < (b_1.length : Int))) then
     (b_1[e_.toNat]?).bind fun e_1 =>
     bif decide (((List.length out) + 1) ≤ big) then
      bif (decide (0 ≤ k_) && decide (k_ < (list.length : Int))) then
       (list[k_.toNat]?).bind fun e_2 =>
       bif (decide (0 ≤ (w64 (k_ - 1))) && decide ((w64 (k_ - 1)) < (list.length : Int))) then
        (list[(w64 (k_ - 1)).toNat]?).bind fun e_3 =>
        bif decide (((List.length (out ++ [(w64 (e_1 - 2))])) + 1) ≤ big) then
         g (w64 (k_ + 1)) ((out ++ [(w64 (e_1 - 2))]) ++ [(w64 (e_2 - e_3))]) list b_ b_1 b0 r0
        else
         none
       else
        none
      else
       none
     else
      none
    else
     none
   else
    none
  else
  bif (decide (0 ≤ k_) && decide (k_ < (list.length : Int))) then
   (list[k_.toNat]?).bind fun e_4 =>
   bif (decide (0 ≤ (w64 (k_ - 1))) && decide ((w64 (k_ - 1)) < (list.length : Int))) then
    (list[(w64 (k_ - 1)).toNat]?).bind fun e_5 =>
    bif decide (((List.length out) + 1) ≤ big) then
     g (w64 (k_ + 1)) (out ++ [(w64 (e_4 - e_5))]) list b_ b_1 b0 r0
    else
     none
   else
    none
  else
   none
 else
  b0 k_ out list b_ b_1
def iq : T36 α
 | 0 => fun _ _ _ _ _ _ _ => none
 | k + 1 => nz (iq k) k
def AZ (F0 : T35 α) (G3 : T36 α) : T35 α := fun k s s1 r0 =>
 F0 k s s1 fun v =>
 G3 k 1 [] v s s1
  (fun _ out1 _ _ _ =>
    r0 out1)
  r0
def oW : T35 α := AZ oK iq
def NZ (F0 : T26 α) (F1 : T33 α) (F2 : T35 α) : T37 α := fun k a a1 b_ b_1 r0 r1 =>
 F0 k a a1 b_ b_1
  (fun v =>
    bif (!decide (v = 0)) then
     r0 v
    else
     F1 k)
  (fun v1 v2 v3 =>
    bif (!decide (v3 = 0)) then
     r0 v3
    else
     F2 k v1 v2 fun v4 =>
     r1 v4 0)
def ay : T37 α := NZ qZ Dx oW
def bW (_ : Nat) (r0 : Int → Int → Int → Option α) : Option α := r0 0 0 2
def Zz (F0 : T15 α) : T17 α := fun k a a1 r0 =>
 F0 k a (-1000) 1000 fun v =>
 bif v then
  F0 k a1 (-1000) 1000 fun v1 =>
  r0 v1
 else
  r0 false
def Yv : T17 α := Zz MX
def Kw (F0 : T17 α) : T17 α := fun k a a1 r0 =>
 F0 k a a1 fun v =>
 r0 (!v)
def yx : T17 α := Kw Yv
def iZ (F0 : T17 α) (g : Int → Int → (List (Int × Int)) → (Int → Int → (List (Int × Int)) → Option α) → (Int → Option α) → Option α) : T18 α := fun k x x1 s1 b0 r0 =>
 bif decide (x1 < x) then
  bif (decide (0 ≤ x1) && decide (x1 < (s1.length : Int))) then
   (s1[x1.toNat]?).bind fun e_ =>
   F0 k e_.1 e_.2 fun v =>
   bif v then
    r0 x1
   else
    g x (w64 (x1 + 1)) s1 b0 r0
  else
   none
 else
  b0 x x1 s1
def bJ : T18 α
 | 0 => fun _ _ _ _ _ => none
 | k + 1 => iZ yx (bJ k) k
def iy (G2 : T18 α) : T19 α := fun k s r0 =>
 G2 k (s.length : Int) 0 s
  (fun _ _ _ =>
    r0 (-1))
  r0
def gW : T19 α := iy bJ
def iJ (F0 : T19 α) : T20 α := fun k s r0 =>
 F0 k s fun v =>
 r0 (decide (0 ≤ v))
def gQ : T20 α := iJ gW
def zk : T38 α := fun _ p_ i r0 =>
 bif decide ((p_.length : Int) = 0) then
  none
 else
 bif (decide (0 ≤ (Int.tmod (w64 (i + 1)) (p_.length : Int))) && decide ((Int.tmod (w64 (i + 1)) (p_.length : Int)) < (p_.length : Int))) then
  (p_[(Int.tmod (w64 (i + 1)) (p_.length : Int)).toNat]?).bind fun e_ =>
  r0 e_.1 e_.2
 else
  none
def kX : T38 α := zk
def aaR (F0 : T24 α) (F1 : T9 α) : T31 α := fun k a a1 b_ b_1 c c1 r0 =>
 F0 k b_ b_1 a a1 fun v v1 =>
 F0 k c c1 b_ b_1 fun v2 v3 =>
 F1 k v v1 v2 v3 fun v4 =>
 r0 v4
def Jw : T31 α := aaR jy kV
def uQ (F1 : T31 α) (g : Int → Int → Int → Int → Int → (List (Int × Int)) → Int → Int → Int → Int → (Int → Int → Int → Int → Int → (List (Int × Int)) → Int → Int → Int → Int → Option α) → (Bool → Option α) → Option α) : T39 α := fun k i x2 x3 x4 x5 p_2 a a1 b_ b_1 b2 r0 =>
 bif decide (x5 < x4) then
  bif (decide (0 ≤ x5) && decide (x5 < (p_2.length : Int))) then
   (p_2[x5.toNat]?).bind fun e_1 =>
   bif (!decide (x5 = i)) then
    bif decide ((p_2.length : Int) = 0) then
     none
    else
    bif (!decide (x5 = (Int.tmod (w64 (i + 1)) (p_2.length : Int)))) then
     F1 k a a1 b_ b_1 e_1.1 e_1.2 fun v2 =>
     bif decide (v2 ≤ 0) then
      r0 false
     else
      g i x2 x3 x4 (w64 (x5 + 1)) p_2 a a1 b_ b_1 b2 r0
    else
     g i x2 x3 x4 (w64 (x5 + 1)) p_2 a a1 b_ b_1 b2 r0
   else
    g i x2 x3 x4 (w64 (x5 + 1)) p_2 a a1 b_ b_1 b2 r0
  else
   none
 else
  b2 i x2 x3 x4 x5 p_2 a a1 b_ b_1
def jq : T39 α
 | 0 => fun _ _ _ _ _ _ _ _ _ _ _ _ => none
 | k + 1 => uQ Jw (jq k) k
def tK (F0 : T38 α) (G6 : T39 α) (g : Int → Int → (List (Int × Int)) → (Int → Int → (List (Int × Int)) → Option α) → (Bool → Option α) → Option α) : T40 α := fun k x x1 p_1 b0 r0 =>
 bif decide (x1 < x) then
  bif (decide (0 ≤ x1) && decide (x1 < (p_1.length : Int))) then
   (p_1[x1.toNat]?).bind fun e_ =>
   F0 k p_1 x1 fun v v1 =>
   G6 k x1 x x1 (p_1.length : Int) 0 p_1 e_.1 e_.2 v v1
    (fun _ x6 x7 _ _ p_3 _ _ _ _ =>
      g x6 (w64 (x7 + 1)) p_3 b0 r0)
    r0
  else
   none
 else
  b0 x x1 p_1
def iY : T40 α
 | 0 => fun _ _ _ _ _ => none
 | k + 1 => tK kX jq (iY k) k
def DW (G2 : T40 α) : T20 α := fun k p_ r0 =>
 G2 k (p_.length : Int) 0 p_
  (fun _ _ _ =>
    r0 true)
  r0
def zq : T20 α := DW iY
def PX (F0 : T15 α) (F1 : T20 α) (F2 : T20 α) : T20 α := fun k list r0 =>
 F0 k (list.length : Int) 3 12 fun v =>
 bif (!v) then
  r0 false
 else
  F1 k list fun v1 =>
  bif v1 then
   r0 false
  else
   F2 k list fun v2 =>
   r0 v2
def bz : T20 α := PX MX gQ zq
def mZ (F0 : T38 α) (F1 : T9 α) (g : Int → Int → Int → (List (Int × Int)) → (Int → Int → Int → (List (Int × Int)) → Option α) → (Int → Option α) → Option α) : T41 α := fun k out x x1 p_1 b0 r0 =>
 bif decide (x1 < x) then
  bif (decide (0 ≤ x1) && decide (x1 < (p_1.length : Int))) then
   (p_1[x1.toNat]?).bind fun e_ =>
   F0 k p_1 x1 fun v v1 =>
   F1 k e_.1 e_.2 v v1 fun v2 =>
   g (w64 (out + v2)) x (w64 (x1 + 1)) p_1 b0 r0
  else
   none
 else
  b0 out x x1 p_1
def gX : T41 α
 | 0 => fun _ _ _ _ _ _ => none
 | k + 1 => mZ kX kV (gX k) k
def tZ (G3 : T41 α) : T19 α := fun k p_ r0 =>
 G3 k 0 (p_.length : Int) 0 p_
  (fun out1 _ _ _ =>
    r0 out1)
  r0
def pq : T19 α := tZ gX
def IQ (F0 : T19 α) : T19 α := fun k p_ r0 =>
 F0 k p_ fun v =>
 r0 v
def CY : T19 α := IQ pq
def oZ (F0 : T20 α) (F1 : T19 α) : T42 α := fun k list r0 =>
 F0 k list fun v =>
 bif (!v) then
  r0 0 1
 else
  F1 k list fun v1 =>
  r0 v1 0
def lZ : T42 α := oZ bz CY
def FX (F0 : T42 α) : T42 α := fun k list r0 =>
 F0 k list fun v v1 =>
 r0 v v1
def aX : T42 α := FX lZ
def Qy (F0 : T20 α) : T22 α := fun k m m1 m2 m3 r0 =>
 F0 k [(m, m1), (m2, m3)] fun v =>
 r0 v
def Oz : T22 α := Qy pY
def Hw : T32 α := fun _ m m1 m2 m3 a a1 r0 =>
 r0 (w64 ((w64 (m * a)) + (w64 (m1 * a1)))) (w64 ((w64 (m2 * a)) + (w64 (m3 * a1))))
def CZ : T32 α := Hw
def NY (F0 : T17 α) : T43 α := fun k a a1 r0 =>
 F0 k a a1 fun v =>
 bif (!v) then
  r0 0 0 3
 else
  r0 a a1 0
def Ij : T43 α := NY nJ
def Jy (F0 : T22 α) (F1 : T17 α) (F2 : T32 α) (F3 : T43 α) : T44 α := fun k m m1 m2 m3 a a1 r0 =>
 F0 k m m1 m2 m3 fun v =>
 bif (!v) then
  r0 0 0 1
 else
  F1 k a a1 fun v1 =>
  bif (!v1) then
   r0 0 0 1
  else
   F2 k m m1 m2 m3 a a1 fun v2 v3 =>
   F3 k v2 v3 fun v4 v5 v6 =>
   r0 v4 v5 v6
def aV : T44 α := Jy Oz nJ CZ Ij
def QQ : T45 α := fun _ r0 =>
 r0 true
def bQ : T45 α := QQ
def Rz : T46 α := fun _ i a1 b0 _ =>
 bif decide (i < (a1.length : Int)) then
  bif (decide (0 ≤ i) && decide (i < (a1.length : Int))) then
   (a1[i.toNat]?).bind fun _ =>
   none
  else
   none
 else
  b0 i a1
def zx : T46 α
 | 0 => fun _ _ _ _ => none
 | k + 1 => Rz k
def WY (G4 : T46 α) : T0 α := fun k a r0 =>
 bif (!decide ((a.length : Int) = 0)) then
  r0 false
 else
  G4 k 0 a
   (fun _ _ =>
     r0 true)
   r0
def dV : T0 α := WY zx
def dJ (_ : Nat) (list : List Int) (r0 : Int → Int → Int → Option α) : Option α := aeJ list r0
def Wv : T0 α := fun _ b_ r0 =>
 bif (!decide (0 = (b_.length : Int))) then
  r0 false
 else
  r0 true
def dW : T0 α := Wv
def CX (g : Int → List Int → List Int → (Int → List Int → List Int → Option α) → (Bool → Option α) → Option α) : T47 α := fun _ i a1 b_1 b0 r0 =>
 bif decide (i < (a1.length : Int)) then
  bif (decide (0 ≤ i) && decide (i < (a1.length : Int))) then
   (a1[i.toNat]?).bind fun e_ =>
   bif (decide (0 ≤ i) && decide (i < (b_1.length : Int))) then
    (b_1[i.toNat]?).bind fun e_1 =>
    bif (!decide (e_ = e_1)) then
     r0 false
    else
     g (w64 (i + 1)) a1 b_1 b0 r0
   else
    none
  else
   none
 else
  b0 i a1 b_1
def pJ : T47 α
 | 0 => fun _ _ _ _ _ => none
 | k + 1 => CX (pJ k) k
def Sz (G4 : T47 α) : T48 α := fun k a b_ r0 =>
 bif (!decide ((a.length : Int) = (b_.length : Int))) then
  r0 false
 else
  G4 k 0 a b_
   (fun _ _ _ =>
     r0 true)
   r0
def dK : T48 α := Sz pJ
def GX (F0 : Nat → List Int → (Bool → Option α) → Option α) (F1 : Nat → List Int → (Int → Int → Int → Int → Option α) → Option α) (F2 : Nat → Int → Int → Int → Int → (Int → Option α) → ((List (Int × Int)) → Int → Option α) → Option α) (k : Nat) (code : List Int) (κ5 : Int → Int → Int → Int → Int → (List (Int × Int)) → Option α) (r0 : Bool → Option α) : Option α :=
 F0 k code fun v =>
 bif v then
  r0 true
 else
  F1 k code fun v1 v2 v3 v4 =>
  F2 k v1 v2 v3 v4
   (fun v5 =>
     κ5 v5 v1 v2 v3 v4 [])
   (fun v6 v7 =>
     κ5 v7 v1 v2 v3 v4 v6)
def AX (F3 : Nat → Int → Int → Int → Int → (Int → Option α) → ((List (Int × Int)) → Int → Option α) → Option α) (k : Nat) (one : Int) (a : Int) (a1 : Int) (b_ : Int) (b_1 : Int) (points : List (Int × Int)) (κ6 : Int → Int → Int → Int → Int → Int → (List (Int × Int)) → (List (Int × Int)) → Option α) (r0 : Bool → Option α) : Option α :=
 F3 k a a1 b_ b_1
  (fun v8 =>
    κ6 one v8 a a1 b_ b_1 points [])
  (fun v9 v10 =>
    κ6 one v10 a a1 b_ b_1 points v9)
def Gw (F4 : Nat → Int → Int → Int → Int → (Bool → Option α) → Option α) (F5 : Nat → Int → Int → Int → Int → (Bool → Option α) → Option α) (k : Nat) (one1 : Int) (two : Int) (a2 : Int) (a3 : Int) (b_2 : Int) (b_3 : Int) (points1 : List (Int × Int)) (want : List (Int × Int)) (κ7 : Option α) (κ8 : Int → Int → Int → Int → Int → (List (Int × Int)) → Option α) (r0 : Bool → Option α) : Option α :=
 bif (!decide (one1 = two)) then
  κ7
 else
 bif (!decide ((points1.length : Int) = (want.length : Int))) then
  κ7
 else
  F4 k a2 a3 b_2 b_3 fun v11 =>
  F5 k a2 a3 b_2 b_3 fun v12 =>
  bif (!(v11 == v12)) then
   κ7
  else
   κ8 one1 a2 a3 b_2 b_3 points1
def OJ (k : Nat)  (r0 : Bool → Option α) : Option α :=
 r0 false
def Az (F6 : Nat → Int → Int → Int → Int → (Int → Int → Option α) → Option α) (F7 : Nat → Int → Int → Int → Int → (Int → Int → Option α) → Option α) (F8 : Nat → Int → Int → Int → Int → Int → Int → (Int → Int → Option α) → Option α) (k : Nat) (one2 : Int) (a4 : Int) (a5 : Int) (b_4 : Int) (b_5 : Int) (points2 : List (Int × Int)) (κ14 : Option α) (κ15 : Int → Int → Int → Int → Int → Option α) (r0 : Bool → Option α) : Option α :=
 bif (!decide (one2 = 0)) then
  r0 true
 else
  F6 k a4 a5 b_4 b_5 fun v13 v14 =>
  F7 k a4 a5 b_4 b_5 fun v15 v16 =>
  F8 k 0 0 a4 a5 b_4 b_5 fun v17 v18 =>
  bif (!decide (v14 = 0)) then
   κ14
  else
  bif (!decide (v16 = 0)) then
   κ14
  else
  bif (!decide (v18 = 0)) then
   κ14
  else
  bif (!decide (v17 = v13)) then
   κ14
  else
  bif decide (v13 < v15) then
   κ14
  else
  bif (!decide (v15 = (w64 ((points2.length : Int) - 1)))) then
   κ14
  else
   κ15 v13 a4 a5 b_4 b_5
def OX (k : Nat)  (r0 : Bool → Option α) : Option α :=
 r0 false
def GK (F9 : Nat → Int → Int → Int → Int → (Int → Option α) → (List Int → Int → Option α) → Option α) (k : Nat) (det : Int) (a6 : Int) (a7 : Int) (b_6 : Int) (b_7 : Int) (κ16 : Int → Int → Int → Int → Int → Int → List Int → Option α) (r0 : Bool → Option α) : Option α :=
 F9 k a6 a7 b_6 b_7
  (fun v19 =>
    κ16 det v19 a6 a7 b_6 b_7 [])
  (fun v20 v21 =>
    κ16 det v21 a6 a7 b_6 b_7 v20)
def Fj (F9 : Nat → Int → Int → Int → Int → (Int → Option α) → (List Int → Int → Option α) → Option α) (F11 : Nat → (List (Int × Int)) → (Bool → Option α) → Option α) (F12 : Nat → (List (Int × Int)) → (Int → Int → Option α) → Option α) (F13 : Nat → Int → Int → Int → Int → Int → Int → (Int → Int → Int → Option α) → Option α) (F16 : Nat → List Int → (Int → Int → Int → Option α) → Option α) (k : Nat) (det1 : Int) (six : Int) (a8 : Int) (a9 : Int) (b_8 : Int) (b_9 : Int) (list : List Int) (κ18 : Option α) (κ23 : Option α) (κ29 : Int → List Int → List Int → Option α) (r0 : Bool → Option α) : Option α :=
 F16 k list fun v22 _ v24 =>
 bif (!decide (six = 0)) then
  κ18
 else
 bif decide (v24 = 0) then
  bif (!decide (v22 = det1)) then
   κ18
  else
   F11 k [(0, 0), (a8, a9), (b_8, b_9)] fun v25 =>
   bif v25 then
    F12 k [(0, 0), (a8, a9), (b_8, b_9)] fun v26 v27 =>
    bif (!decide (v27 = 0)) then
     κ23
    else
    bif (!decide (v26 = det1)) then
     κ23
    else
     F13 k 3 2 1 1 a8 a9 fun v28 v29 v30 =>
     F13 k 3 2 1 1 b_8 b_9 fun v31 v32 v33 =>
     bif decide (v30 = 0) then
      bif decide (v33 = 0) then
       F9 k v28 v29 v31 v32
        (fun v34 =>
          κ29 v34 list [])
        (fun v35 v36 =>
          κ29 v36 list v35)
      else
       r0 true
     else
      r0 true
   else
    F13 k 3 2 1 1 a8 a9 fun v37 v38 v39 =>
    F13 k 3 2 1 1 b_8 b_9 fun v40 v41 v42 =>
    bif decide (v39 = 0) then
     bif decide (v42 = 0) then
      F9 k v37 v38 v40 v41
       (fun v43 =>
         κ29 v43 list [])
       (fun v44 v45 =>
         κ29 v45 list v44)
     else
      r0 true
    else
     r0 true
 else
  F11 k [(0, 0), (a8, a9), (b_8, b_9)] fun v46 =>
  bif v46 then
   F12 k [(0, 0), (a8, a9), (b_8, b_9)] fun v47 v48 =>
   bif (!decide (v48 = 0)) then
    κ23
   else
   bif (!decide (v47 = det1)) then
    κ23
   else
    F13 k 3 2 1 1 a8 a9 fun v49 v50 v51 =>
    F13 k 3 2 1 1 b_8 b_9 fun v52 v53 v54 =>
    bif decide (v51 = 0) then
     bif decide (v54 = 0) then
      F9 k v49 v50 v52 v53
       (fun v55 =>
         κ29 v55 list [])
       (fun v56 v57 =>
         κ29 v57 list v56)
     else
      r0 true
    else
     r0 true
  else
   F13 k 3 2 1 1 a8 a9 fun v58 v59 v60 =>
   F13 k 3 2 1 1 b_8 b_9 fun v61 v62 v63 =>
   bif decide (v60 = 0) then
    bif decide (v63 = 0) then
     F9 k v58 v59 v61 v62
      (fun v64 =>
        κ29 v64 list [])
      (fun v65 v66 =>
        κ29 v66 list v65)
    else
     r0 true
   else
    r0 true
def OZ (k : Nat)  (r0 : Bool → Option α) : Option α :=
 r0 false
def OY (k : Nat)  (r0 : Bool → Option α) : Option α :=
 r0 false
def Dj (F18 : Nat → List Int → List Int → (Bool → Option α) → Option α) (k : Nat) (eleven : Int) (list1 : List Int) (same : List Int) (κ30 : Option α) (r0 : Bool → Option α) : Option α :=
 bif (!decide (eleven = 0)) then
  κ30
 else
  F18 k same list1 fun v67 =>
  bif (!v67) then
   κ30
  else
   r0 true
def MK (k : Nat)  (r0 : Bool → Option α) : Option α :=
 r0 false
def Tv (k : Nat)  (r0 : Bool → Option α) : Option α :=
 MK k r0
def lq (k : Nat) (eleven : Int) (list1 : List Int) (same : List Int) (r0 : Bool → Option α) : Option α :=
 Dj dK k eleven list1 same (Tv k r0) r0
def Fv (k : Nat)  (r0 : Bool → Option α) : Option α :=
 OY k r0
def Xy (k : Nat)  (r0 : Bool → Option α) : Option α :=
 OZ k r0
def Gj (k : Nat) (det1 : Int) (six : Int) (a8 : Int) (a9 : Int) (b_8 : Int) (b_9 : Int) (list : List Int) (r0 : Bool → Option α) : Option α :=
 Fj ay bz aX aV dJ k det1 six a8 a9 b_8 b_9 list (Xy k r0) (Fv k r0) (fun eleven list1 same => lq k eleven list1 same r0) r0
def OV (k : Nat) (det : Int) (a6 : Int) (a7 : Int) (b_6 : Int) (b_7 : Int) (r0 : Bool → Option α) : Option α :=
 GK ay k det a6 a7 b_6 b_7 (fun det1 six a8 a9 b_8 b_9 list => Gj k det1 six a8 a9 b_8 b_9 list r0) r0
def Xq (k : Nat)  (r0 : Bool → Option α) : Option α :=
 OX k r0
def wX (k : Nat) (one2 : Int) (a4 : Int) (a5 : Int) (b_4 : Int) (b_5 : Int) (points2 : List (Int × Int)) (r0 : Bool → Option α) : Option α :=
 Az aj dZ fZ k one2 a4 a5 b_4 b_5 points2 (Xq k r0) (fun det a6 a7 b_6 b_7 => OV k det a6 a7 b_6 b_7 r0) r0
def XV (k : Nat)  (r0 : Bool → Option α) : Option α :=
 OJ k r0
def wz (k : Nat) (one1 : Int) (two : Int) (a2 : Int) (a3 : Int) (b_2 : Int) (b_3 : Int) (points1 : List (Int × Int)) (want : List (Int × Int)) (r0 : Bool → Option α) : Option α :=
 Gw fQ fJ k one1 two a2 a3 b_2 b_3 points1 want (XV k r0) (fun one2 a4 a5 b_4 b_5 points2 => wX k one2 a4 a5 b_4 b_5 points2 r0) r0
def wK (k : Nat) (one : Int) (a : Int) (a1 : Int) (b_ : Int) (b_1 : Int) (points : List (Int × Int)) (r0 : Bool → Option α) : Option α :=
 AX cZ k one a a1 b_ b_1 points (fun one1 two a2 a3 b_2 b_3 points1 want => wz k one1 two a2 a3 b_2 b_3 points1 want r0) r0
def Xw (k : Nat) (code : List Int) (r0 : Bool → Option α) : Option α :=
 GX jZ aY dQ k code (fun one a a1 b_ b_1 points => wK k one a a1 b_ b_1 points r0) r0
def Ry (k : Nat) (code : List Int) (r0 : Bool → Option α) : Option α := Xw k code r0
end Go.Sh
