/- The program's functions, read without memory: printed by a program of ours. -/
import Derived.Test.YtbopdbpjmlmngaaGreatMaB
import Derived.Test.YtbopdbpjmlmngaaGreatEvSort
namespace Go.Sh
open Go Go.Ev
variable {α : Type}
abbrev T0 (α : Type) : Type := Nat → List Int → (Bool → Option α) → Option α
abbrev T1 (α : Type) : Type := Nat → Int → List Int → Int → Int → (Int → List Int → Int → Int → Option α) → (Int → Int → Option α) → Option α
abbrev T2 (α : Type) : Type := Nat → List Int → (Int → Int → Option α) → Option α
abbrev T3 (α : Type) : Type := Nat → List Int → Int → Int → Int → (Int → Int → Int → Option α) → Option α
abbrev T4 (α : Type) : Type := Nat → List Int → Int → Int → List Int → (Int → Int → Int → Option α) → Option α
abbrev T5 (α : Type) : Type := Nat → List Int → Int → Int → Int → (Int → Int → Int → Int → Option α) → Option α
abbrev T6 (α : Type) : Type := Nat → Int → Int → Int → Int → (Bool → Option α) → Option α
abbrev T7 (α : Type) : Type := Nat → Int → Int → Int → Int → Int → (Int → Int → Option α) → Option α
abbrev T8 (α : Type) : Type := Nat → Int → Int → Int → Int → (Int → Option α) → Option α
abbrev T9 (α : Type) : Type := Nat → Int → (List (Int × Int)) → Int → Int → (Int → (List (Int × Int)) → Int → Int → Option α) → ((List (Int × Int)) → Option α) → Option α
abbrev T10 (α : Type) : Type := Nat → Bool → Int → (List (Int × Int)) → Int → Int → (List (Int × Int)) → Int → Int → Int → Int → (Bool → Int → (List (Int × Int)) → Int → Int → (List (Int × Int)) → Int → Int → Int → Int → Option α) → ((List (Int × Int)) → Option α) → Option α
abbrev T11 (α : Type) : Type := Nat → (List (Int × Int)) → Int → Int → (List (Int × Int)) → ((List (Int × Int)) → Option α) → Option α
abbrev T12 (α : Type) : Type := Nat → (List (Int × Int)) → ((List (Int × Int)) → Option α) → Option α
abbrev T13 (α : Type) : Type := Nat → Int → Int → Int → (Bool → Option α) → Option α
abbrev T14 (α : Type) : Type := Nat → Int → (Bool → Option α) → Option α
abbrev T15 (α : Type) : Type := Nat → Int → Int → (Bool → Option α) → Option α
abbrev T16 (α : Type) : Type := Nat → Int → Int → Int → Int → Int → Int → (Int → Option α) → Option α
abbrev T17 (α : Type) : Type := Nat → Int → Int → (Int → Option α) → Option α
abbrev T18 (α : Type) : Type := Nat → Int → Int → Int → (List (Int × Int)) → (Int → Int → Int → (List (Int × Int)) → Option α) → (Bool → Option α) → Option α
abbrev T19 (α : Type) : Type := Nat → (List (Int × Int)) → (Bool → Option α) → Option α
abbrev T20 (α : Type) : Type := Nat → (List (Int × Int)) → (Int → Option α) → ((List (Int × Int)) → Int → Option α) → Option α
abbrev T21 (α : Type) : Type := Nat → Int → Int → Int → Int → Int → (List (Int × Int)) → List Int → (Int → Int → Int → Int → Int → (List (Int × Int)) → List Int → Option α) → (Int → Int → Option α) → ((List (Int × Int)) → Int → Int → Option α) → Option α
abbrev T22 (α : Type) : Type := Nat → Int → Int → Int → Int → List Int → (Int → Int → Int → Int → List Int → Option α) → (Int → Int → Option α) → ((List (Int × Int)) → Int → Int → Option α) → Option α
abbrev T23 (α : Type) : Type := Nat → List Int → Int → Int → Int → (Int → Int → Option α) → ((List (Int × Int)) → Int → Int → Option α) → Option α
abbrev T24 (α : Type) : Type := Nat → List Int → Int → Int → ((List (Int × Int)) → Int → Int → Option α) → Option α
abbrev T25 (α : Type) : Type := Nat → List Int → Int → Int → (List (Int × Int)) → ((List (Int × Int)) → Int → Int → Option α) → Option α
abbrev T26 (α : Type) : Type := Nat → List Int → ((List (Int × Int)) → Option α) → Option α
abbrev T27 (α : Type) : Type := Nat → Int → Int → (List (Int × Int)) → (Int → Int → (List (Int × Int)) → Option α) → (Int → Option α) → Option α
abbrev T28 (α : Type) : Type := Nat → (List (Int × Int)) → (Int → Option α) → Option α
abbrev T29 (α : Type) : Type := Nat → (List (Int × Int)) → Int → (Int → Int → Option α) → Option α
abbrev T30 (α : Type) : Type := Nat → Int → Int → Int → Int → (Int → Int → Option α) → Option α
abbrev T31 (α : Type) : Type := Nat → Int → Int → Int → Int → Int → (List (Int × Int)) → Int → Int → Int → Int → (Int → Int → Int → Int → Int → (List (Int × Int)) → Int → Int → Int → Int → Option α) → (Bool → Option α) → Option α
abbrev T32 (α : Type) : Type := Nat → Int → Int → (List (Int × Int)) → (Int → Int → (List (Int × Int)) → Option α) → (Bool → Option α) → Option α
abbrev T33 (α : Type) : Type := Nat → Int → Int → Int → List Int → (Int → Int → Int → List Int → Option α) → (Int → Option α) → Option α
abbrev T34 (α : Type) : Type := Nat → List Int → (Int → Option α) → Option α
abbrev T35 (α : Type) : Type := Nat → Int → (List (Int × Int)) → Int → Int → Int → Int → (Int → (List (Int × Int)) → Int → Int → Int → Int → Option α) → (Int → Int → Option α) → Option α
abbrev T36 (α : Type) : Type := Nat → (List (Int × Int)) → (Int → Int → Option α) → Option α
abbrev T37 (α : Type) : Type := Nat → Int → Int → (List (Int × Int)) → Int → Int → (Int → Int → (List (Int × Int)) → Int → Int → Option α) → (Int → Option α) → Option α
abbrev T38 (α : Type) : Type := Nat → (List (Int × Int)) → Int → Int → (Int → Option α) → Option α
abbrev T39 (α : Type) : Type := Nat → Int → ((List (Int × Int)) → Option α) → (Option α) → Option α
abbrev T40 (α : Type) : Type := Nat → (List (Int × Int)) → (List (Int × Int)) → ((List (Int × Int)) → Option α) → Option α
abbrev T41 (α : Type) : Type := Nat → Int → Int → (List (Int × Int)) → (Int → Int → (List (Int × Int)) → Option α) → ((List (Int × Int)) → Option α) → Option α
abbrev T42 (α : Type) : Type := Nat → (Bool → Option α) → Option α
abbrev T43 (α : Type) : Type := Nat → (List (Int × Int)) → (Option α) → ((List (Int × Int)) → Option α) → Option α
abbrev T44 (α : Type) : Type := Nat → (Option α) → Option α
abbrev T45 (α : Type) : Type := Nat → ((List (Int × Int)) → Option α) → Option α
abbrev T46 (α : Type) : Type := Nat → Int → Nat → Nat → Int → (List (Int × Int)) → (Int → Nat → Nat → Int → (List (Int × Int)) → Option α) → ((List (Int × Int)) → Option α) → Option α
abbrev T47 (α : Type) : Type := Nat → Int → (List (Int × Int)) → (Int → (List (Int × Int)) → Option α) → ((List (Int × Int)) → Option α) → Option α
abbrev T48 (α : Type) : Type := Nat → Int → Int → (List (Int × Int)) → Int → Int → (List (Int × Int)) → (Int → Int → (List (Int × Int)) → Int → Int → (List (Int × Int)) → Option α) → ((List (Int × Int)) → Option α) → Option α
abbrev T49 (α : Type) : Type := Nat → Int → Int → (List (Int × Int)) → (List (Int × Int)) → (Int → Int → (List (Int × Int)) → (List (Int × Int)) → Option α) → ((List (Int × Int)) → Option α) → Option α
abbrev T50 (α : Type) : Type := Nat → Int → Int → Int → (List (Int × Int)) → (Int → Int → Int → (List (Int × Int)) → Option α) → (Int → Option α) → Option α
abbrev T51 (α : Type) : Type := Nat → Int → (Int → Option α) → Option α
abbrev T52 (α : Type) : Type := Nat → Int → Int → (Int → Int → Option α) → (Int → Option α) → Option α
abbrev T53 (α : Type) : Type := Nat → Int → Int → Int → Int → Int → Int → (Int → Int → Option α) → Option α
abbrev T54 (α : Type) : Type := Nat → Int → Int → Int → (List (Int × Int)) → Int → Int → (Int → Int → Int → (List (Int × Int)) → Int → Int → Option α) → (Int → Option α) → Option α
abbrev T55 (α : Type) : Type := Nat → (List (Int × Int)) → Int → Int → (Int → Int → Option α) → Option α
abbrev T56 (α : Type) : Type := Nat → Int → Int → Int → Int → Int → Int → Int → Int → (List (Int × Int)) → (List (Int × Int)) → (Int → Int → Int → Int → Int → Int → Int → Int → (List (Int × Int)) → (List (Int × Int)) → Option α) → (Int → Option α) → ((List (Int × Int)) → Int → Option α) → Option α
abbrev T57 (α : Type) : Type := Nat → Int → Int → Int → Int → (List (Int × Int)) → Int → Int → (Int → Option α) → ((List (Int × Int)) → Int → Option α) → Option α
abbrev T58 (α : Type) : Type := Nat → (Int → Option α) → Option α
abbrev T59 (α : Type) : Type := Nat → Int → Int → (Int → Int → Option α) → Option α
abbrev T60 (α : Type) : Type := Nat → Int → Int → Int → Int → Int → (Int → Int → Int → Int → Int → Option α) → (Int → Option α) → Option α
abbrev T61 (α : Type) : Type := Nat → Int → Int → (List (Int × Int)) → Int → Int → Int → Int → (Int → Int → Option α) → Option α
abbrev T62 (α : Type) : Type := Nat → Int → Int → Int → Int → Int → Int → Int → Int → (List (Int × Int)) → (List (Int × Int)) → (Int → Int → Int → Int → Int → Int → Int → Int → (List (Int × Int)) → (List (Int × Int)) → Option α) → ((List (Int × Int)) → Option α) → Option α
abbrev T63 (α : Type) : Type := Nat → Int → Int → (List (Int × Int)) → (List (Int × Int)) → (Int → Int → (List (Int × Int)) → (List (Int × Int)) → Option α) → (Int → Option α) → Option α
abbrev T64 (α : Type) : Type := Nat → (List (Int × Int)) → (List (Int × Int)) → (Int → Option α) → Option α
abbrev T65 (α : Type) : Type := Nat → Int → Int → (List (Int × Int)) → (List (Int × Int)) → (Int → Int → (List (Int × Int)) → (List (Int × Int)) → Option α) → (Int → Option α) → ((List (Int × Int)) → Int → Option α) → Option α
abbrev T66 (α : Type) : Type := Nat → (List (Int × Int)) → (Bool → Int → Option α) → Option α
abbrev T67 (α : Type) : Type := Nat → Int → Int → Int → Int → Int → Int → Int → Int → Int → (Int → Int → Int → Int → Int → Int → Int → Int → Int → Option α) → (Int → Int → Option α) → Option α
abbrev T68 (α : Type) : Type := Nat → Int → Int → Int → Int → Int → Int → Int → Int → (Int → Int → Int → Int → Option α) → Option α
abbrev T69 (α : Type) : Type := Nat → Int → (List (Int × Int)) → Int → Int → Int → Int → Int → Int → (List (Int × Int)) → (Int → (List (Int × Int)) → Int → Int → Int → Int → Int → Int → (List (Int × Int)) → Option α) → ((List (Int × Int)) → Option α) → Option α
abbrev T70 (α : Type) : Type := Nat → Int → (List (Int × Int)) → (List (Int × Int)) → (Int → (List (Int × Int)) → (List (Int × Int)) → Option α) → (Bool → Option α) → Option α
abbrev T71 (α : Type) : Type := Nat → (List (Int × Int)) → (List (Int × Int)) → (Bool → Option α) → Option α
abbrev T72 (α : Type) : Type := Nat → Int → (List (Int × Int)) → (Int → (List (Int × Int)) → Option α) → (Int → Option α) → Option α
abbrev T73 (α : Type) : Type := Nat → Int → Int → Int → Int → (List (Int × Int)) → (List (Int × Int)) → (List (Int × Int)) → (Int → Int → Int → Int → (List (Int × Int)) → (List (Int × Int)) → (List (Int × Int)) → Option α) → ((List (Int × Int)) → Bool → Option α) → Option α
abbrev T74 (α : Type) : Type := Nat → Int → Int → Int → (List (Int × Int)) → (List (Int × Int)) → (Int → Int → Int → (List (Int × Int)) → (List (Int × Int)) → Option α) → ((List (Int × Int)) → Bool → Option α) → Option α
abbrev T75 (α : Type) : Type := Nat → Int → Int → (List (Int × Int)) → (List (Int × Int)) → (Int → Int → (List (Int × Int)) → (List (Int × Int)) → Option α) → ((List (Int × Int)) → Bool → Option α) → Option α
abbrev T76 (α : Type) : Type := Nat → (List (Int × Int)) → ((List (Int × Int)) → Bool → Option α) → Option α
abbrev T77 (α : Type) : Type := Nat → Int → Int → Int → Int → Int → Int → Int → Int → Int → Int → Int → List Int → (Int → Int → Int → Int → Int → Int → Int → Int → Int → Int → Int → List Int → Option α) → (Int → Int → Int → Int → Int → Int → Option α) → Option α
abbrev T78 (α : Type) : Type := Nat → List Int → Int → Int → (Int → Int → Int → Int → Int → Int → Option α) → Option α
abbrev T79 (α : Type) : Type := Nat → Int → (List (Int × Int)) → Int → Int → Int → Int → Int → Int → (List (Int × Int)) → (Int → (List (Int × Int)) → Int → Int → Int → Int → Int → Int → (List (Int × Int)) → Option α) → (Int → Option α) → ((List (Int × Int)) → Int → Option α) → Option α
abbrev T80 (α : Type) : Type := Nat → List Int → ((List (Int × Int)) → Option α) → ((List (Int × Int)) → (List (Int × Int)) → Option α) → Option α
abbrev T81 (α : Type) : Type := Nat → ((List (Int × Int)) → Bool → Option α) → Option α
abbrev T82 (α : Type) : Type := Nat → Bool → Int → (List (Int × Int)) → (List (Int × Int)) → (Bool → Int → (List (Int × Int)) → (List (Int × Int)) → Option α) → (Bool → Int → Option α) → Option α
abbrev T83 (α : Type) : Type := Nat → Int → Int → Int → Int → (List (Int × Int)) → List Int → (Int → Int → Int → Int → (List (Int × Int)) → List Int → Option α) → ((List (Int × Int)) → Option α) → Option α
abbrev T84 (α : Type) : Type := Nat → List Int → ((List (Int × Int)) → Int → Int → Option α) → Option α
abbrev T85 (α : Type) : Type := Nat → List Int → ((List (Int × Int)) → Int → Option α) → Option α
abbrev T86 (α : Type) : Type := Nat → Int → (List (Int × Int)) → (Int → (List (Int × Int)) → Option α) → (Bool → Option α) → Option α
abbrev T87 (α : Type) : Type := Nat → Int → Int → (List (Int × Int)) → (List (Int × Int)) → (Int → Int → (List (Int × Int)) → (List (Int × Int)) → Option α) → (Bool → Option α) → Option α
abbrev T88 (α : Type) : Type := Nat → (List (Int × Int)) → (List (Int × Int)) → (Bool → Int → Option α) → Option α
abbrev T89 (α : Type) : Type := Nat → Int → Int → Bool → Int → List Int → (List (Int × Int)) → (Int → Int → Bool → Int → List Int → (List (Int × Int)) → Option α) → (Bool → Option α) → Option α
abbrev T90 (α : Type) : Type := Nat → Int → Int → Int → Int → Int → Int → List Int → (List (Int × Int)) → (Int → Int → Int → Int → Int → Int → List Int → (List (Int × Int)) → Option α) → (Bool → Option α) → Option α
abbrev T91 (α : Type) : Type := Nat → Int → Int → Int → Int → Int → List Int → (List (Int × Int)) → (Int → Int → Int → Int → Int → List Int → (List (Int × Int)) → Option α) → (Bool → Option α) → Option α
def alP : T0 α := fun _ code r0 =>
 r0 (decide (4096 < (code.length : Int)))
def kX : T0 α := alP
def aaI (g : Int → List Int → Int → Int → (Int → List Int → Int → Int → Option α) → (Int → Int → Option α) → Option α) : T1 α := fun _ i code1 s s1 b0 r0 =>
 bif decide (i < (code1.length : Int)) then
  bif decide (i < 4096) then
   bif (decide (0 ≤ i) && decide (i < (code1.length : Int))) then
    (code1[i.toNat]?).bind fun e_ =>
    g (w64 (i + 1)) code1 s (IntKind.wrap .u64 ((IntKind.wrap .u64 ((IntKind.wrap .u64 (s1 * 1099511628211)) + (IntKind.wrap .u64 e_))) + 107)) b0 r0
   else
    none
  else
   b0 i code1 s s1
 else
  b0 i code1 s s1
def GK : T1 α
 | 0 => fun _ _ _ _ _ _ => none
 | k + 1 => aaI (GK k) k
def ahf (G3 : T1 α) : T2 α := fun k code r0 =>
 G3 k 0 code 0 (IntKind.wrap .u64 (12971 + (IntKind.wrap .u64 (code.length : Int))))
  (fun _ _ s2 s3 =>
    r0 s2 s3)
  r0
def sV : T2 α := ahf GK
def ahx : T3 α := fun _ s s1 s2 n_ r0 =>
 bif decide (n_ < 1) then
  r0 0 s1 s2
 else
 bif decide (s1 < (s.length : Int)) then
  bif (decide (0 ≤ s1) && decide (s1 < (s.length : Int))) then
   (s[s1.toNat]?).bind fun e_ =>
   bif decide (n_ = 0) then
    none
   else
    r0 (Int.tmod (w64 ((w64 (IntKind.wrap .u64 ((BitVec.ofInt 64 (Int.fdiv (IntKind.wrap .u64 ((IntKind.wrap .u64 (s2 * 6364136223846793005)) + 1442695040888963407)) (2 ^ 31)) &&& BitVec.ofInt 64 1073741823).toNat))) + (w64 e_))) n_) (w64 (s1 + 1)) (IntKind.wrap .u64 ((IntKind.wrap .u64 (s2 * 6364136223846793005)) + 1442695040888963407))
  else
   none
 else
 bif decide (n_ = 0) then
  none
 else
  r0 (Int.tmod (w64 (IntKind.wrap .u64 ((BitVec.ofInt 64 (Int.fdiv (IntKind.wrap .u64 ((IntKind.wrap .u64 (s2 * 6364136223846793005)) + 1442695040888963407)) (2 ^ 31)) &&& BitVec.ofInt 64 1073741823).toNat))) n_) s1 (IntKind.wrap .u64 ((IntKind.wrap .u64 (s2 * 6364136223846793005)) + 1442695040888963407))
def kK : T3 α := ahx
def aeg (F0 : T3 α) : T4 α := fun k s s1 s2 list r0 =>
 F0 k s s1 s2 (list.length : Int) fun v v1 v2 =>
 bif (decide (0 ≤ v) && decide (v < (list.length : Int))) then
  (list[v.toNat]?).bind fun e_ =>
  r0 e_ v1 v2
 else
  none
def sW : T4 α := aeg kK
def aa1 (F0 : T3 α) : T5 α := fun k s s1 s2 most r0 =>
 F0 k s s1 s2 (w64 ((w64 (2 * most)) + 1)) fun v v1 v2 =>
 F0 k s v1 v2 (w64 ((w64 (2 * most)) + 1)) fun v3 v4 v5 =>
 r0 (w64 (v - most)) (w64 (v3 - most)) v4 v5
def pW : T5 α := aa1 kK
def acW : T6 α := fun _ a a1 b_ b_1 r0 =>
 bif decide (a < b_) then
  r0 true
 else
 bif decide (a = b_) then
  r0 (decide (a1 < b_1))
 else
  r0 false
def uj : T6 α := acW
def Fj : T7 α := fun _ a a1 b_ b_1 k_ r0 =>
 r0 (w64 (a + (w64 (k_ * b_)))) (w64 (a1 + (w64 (k_ * b_1))))
def jy : T7 α := Fj
def Vj : T8 α := fun _ a a1 b_ b_1 r0 =>
 r0 (w64 ((w64 (a * b_1)) - (w64 (a1 * b_))))
def uQ : T8 α := Vj
def ae9 : T8 α := fun _ a a1 b_ b_1 r0 =>
 r0 (w64 ((max (w64 (b_ - a)) (w64 (0 - (w64 (b_ - a))))) + (max (w64 (b_1 - a1)) (w64 (0 - (w64 (b_1 - a1)))))))
def Rz : T8 α := ae9
def TJ (F0 : T6 α) (g : Int → (List (Int × Int)) → Int → Int → (Int → (List (Int × Int)) → Int → Int → Option α) → ((List (Int × Int)) → Option α) → Option α) : T9 α := fun k i list1 first first1 b0 r0 =>
 bif decide (i < (list1.length : Int)) then
  bif (decide (0 ≤ i) && decide (i < (list1.length : Int))) then
   (list1[i.toNat]?).bind fun e_1 =>
   F0 k e_1.1 e_1.2 first first1 fun v =>
   bif v then
    bif (decide (0 ≤ i) && decide (i < (list1.length : Int))) then
     (list1[i.toNat]?).bind fun e_2 =>
     g (w64 (i + 1)) list1 e_2.1 e_2.2 b0 r0
    else
     none
   else
    g (w64 (i + 1)) list1 first first1 b0 r0
  else
   none
 else
  b0 i list1 first first1
def yQ : T9 α
 | 0 => fun _ _ _ _ _ _ => none
 | k + 1 => TJ uj (yQ k) k
def Yv (F1 : T7 α) (F2 : T8 α) (F3 : T8 α) (g : Bool → Int → (List (Int × Int)) → Int → Int → (List (Int × Int)) → Int → Int → Int → Int → (Bool → Int → (List (Int × Int)) → Int → Int → (List (Int × Int)) → Int → Int → Int → Int → Option α) → ((List (Int × Int)) → Option α) → Option α) : T10 α := fun k found i2 list4 first6 first7 out1 now now1 next next1 b4 r0 =>
 bif decide (i2 < (list4.length : Int)) then
  bif (decide (0 ≤ i2) && decide (i2 < (list4.length : Int))) then
   (list4[i2.toNat]?).bind fun e_4 =>
   bif (decide (e_4.1 = now) && decide (e_4.2 = now1)) then
    g found (w64 (i2 + 1)) list4 first6 first7 out1 now now1 next next1 b4 r0
   else
   bif (!found) then
    bif (decide (0 ≤ i2) && decide (i2 < (list4.length : Int))) then
     (list4[i2.toNat]?).bind fun e_5 =>
     g true (w64 (i2 + 1)) list4 first6 first7 out1 now now1 e_5.1 e_5.2 b4 r0
    else
     none
   else
   bif (decide (0 ≤ i2) && decide (i2 < (list4.length : Int))) then
    (list4[i2.toNat]?).bind fun e_6 =>
    F1 k next next1 now now1 (-1) fun v1 v2 =>
    F1 k e_6.1 e_6.2 now now1 (-1) fun v3 v4 =>
    F2 k v1 v2 v3 v4 fun v5 =>
    bif decide (v5 < 0) then
     bif (decide (0 ≤ i2) && decide (i2 < (list4.length : Int))) then
      (list4[i2.toNat]?).bind fun e_7 =>
      g found (w64 (i2 + 1)) list4 first6 first7 out1 now now1 e_7.1 e_7.2 b4 r0
     else
      none
    else
    bif decide (v5 = 0) then
     bif (decide (0 ≤ i2) && decide (i2 < (list4.length : Int))) then
      (list4[i2.toNat]?).bind fun e_8 =>
      F3 k now now1 e_8.1 e_8.2 fun v6 =>
      F3 k now now1 next next1 fun v7 =>
      bif decide (v7 < v6) then
       bif (decide (0 ≤ i2) && decide (i2 < (list4.length : Int))) then
        (list4[i2.toNat]?).bind fun e_9 =>
        g found (w64 (i2 + 1)) list4 first6 first7 out1 now now1 e_9.1 e_9.2 b4 r0
       else
        none
      else
       g found (w64 (i2 + 1)) list4 first6 first7 out1 now now1 next next1 b4 r0
     else
      none
    else
     g found (w64 (i2 + 1)) list4 first6 first7 out1 now now1 next next1 b4 r0
   else
    none
  else
   none
 else
  b4 found i2 list4 first6 first7 out1 now now1 next next1
def uw : T10 α
 | 0 => fun _ _ _ _ _ _ _ _ _ _ _ _ => none
 | k + 1 => Yv jy uQ Rz (uw k) k
def Yy (G13 : T10 α) (g : (List (Int × Int)) → Int → Int → (List (Int × Int)) → ((List (Int × Int)) → Option α) → Option α) : T11 α := fun k list3 first4 first5 out r0 =>
 bif (decide (0 ≤ (w64 ((out.length : Int) - 1))) && decide ((w64 ((out.length : Int) - 1)) < (out.length : Int))) then
  (out[(w64 ((out.length : Int) - 1)).toNat]?).bind fun e_3 =>
  G13 k false 0 list3 first4 first5 out e_3.1 e_3.2 0 0
   (fun found1 _ list5 first8 first9 out2 _ _ next2 next3 =>
     bif (!found1) then
      r0 out2
     else
     bif (decide (next2 = first8) && decide (next3 = first9)) then
      r0 out2
     else
     bif decide (((List.length out2) + 1) ≤ big) then
      bif decide ((list5.length : Int) < (((List.length (out2 ++ [(next2, next3)])) : Nat) : Int)) then
       r0 (out2 ++ [(next2, next3)])
      else
       g list5 first8 first9 (out2 ++ [(next2, next3)]) r0
     else
      none)
   r0
 else
  none
def uy : T11 α
 | 0 => fun _ _ _ _ _ => none
 | k + 1 => Yy uw (uy k) k
def ad2 (G5 : T9 α) (G10 : T11 α) : T12 α := fun k list r0 =>
 bif decide ((list.length : Int) = 0) then
  r0 []
 else
 bif (true && decide (0 < (list.length : Int))) then
  (list[0]?).bind fun e_ =>
  G5 k 0 list e_.1 e_.2
   (fun _ list2 first2 first3 =>
     G10 k list2 first2 first3 [(first2, first3)]
      r0)
   r0
 else
  none
def Ey : T12 α := ad2 yQ uy
def af0 : T13 α := fun _ n_ low high r0 =>
 bif decide (low ≤ n_) then
  r0 (decide (n_ ≤ high))
 else
  r0 false
def FX : T13 α := af0
def adS (F0 : T13 α) : T14 α := fun k x r0 =>
 F0 k x (-1000000) 1000000 fun v =>
 r0 v
def UZ : T14 α := adS FX
def agl (F0 : T14 α) : T15 α := fun k a a1 r0 =>
 F0 k a fun v =>
 bif v then
  F0 k a1 fun v1 =>
  r0 v1
 else
  r0 false
def Dk : T15 α := agl UZ
def aej (F0 : T7 α) (F1 : T8 α) : T16 α := fun k a a1 b_ b_1 c c1 r0 =>
 F0 k b_ b_1 a a1 (-1) fun v v1 =>
 F0 k c c1 b_ b_1 (-1) fun v2 v3 =>
 F1 k v v1 v2 v3 fun v4 =>
 r0 v4
def aac : T16 α := aej jy uQ
def adZ : T17 α := fun _ a a1 r0 =>
 bif decide (0 < a1) then
  r0 0
 else
 bif decide (a1 = 0) then
  bif decide (0 < a) then
   r0 0
  else
   r0 1
 else
  r0 1
def aaj : T17 α := adZ
def ab1 (F0 : T13 α) (F1 : T15 α) (F2 : T16 α) (F3 : T7 α) (F4 : T17 α) (g : Int → Int → Int → (List (Int × Int)) → (Int → Int → Int → (List (Int × Int)) → Option α) → (Bool → Option α) → Option α) : T18 α := fun k n_ turns i list1 b0 r0 =>
 bif decide (i < n_) then
  bif (decide (0 ≤ i) && decide (i < (list1.length : Int))) then
   (list1[i.toNat]?).bind fun e_ =>
   bif decide (n_ = 0) then
    none
   else
   bif (decide (0 ≤ (Int.tmod (w64 (i + 1)) n_)) && decide ((Int.tmod (w64 (i + 1)) n_) < (list1.length : Int))) then
    (list1[(Int.tmod (w64 (i + 1)) n_).toNat]?).bind fun e_1 =>
    bif decide (n_ = 0) then
     none
    else
    bif (decide (0 ≤ (Int.tmod (w64 (i + 2)) n_)) && decide ((Int.tmod (w64 (i + 2)) n_) < (list1.length : Int))) then
     (list1[(Int.tmod (w64 (i + 2)) n_).toNat]?).bind fun e_2 =>
     F0 k e_.1 (-1000) 1000 fun v =>
     bif (!v) then
      r0 false
     else
      F0 k e_.2 (-1000) 1000 fun v1 =>
      bif (!v1) then
       r0 false
      else
       F1 k e_1.1 e_1.2 fun v2 =>
       bif (!v2) then
        r0 false
       else
        F1 k e_2.1 e_2.2 fun v3 =>
        bif (!v3) then
         r0 false
        else
         F2 k e_.1 e_.2 e_1.1 e_1.2 e_2.1 e_2.2 fun v4 =>
         bif decide (v4 ≤ 0) then
          r0 false
         else
          F3 k e_1.1 e_1.2 e_.1 e_.2 (-1) fun v5 v6 =>
          F4 k v5 v6 fun v7 =>
          bif decide (v7 = 1) then
           F3 k e_2.1 e_2.2 e_1.1 e_1.2 (-1) fun v8 v9 =>
           F4 k v8 v9 fun v10 =>
           bif decide (v10 = 0) then
            g n_ (w64 (turns + 1)) (w64 (i + 1)) list1 b0 r0
           else
            g n_ turns (w64 (i + 1)) list1 b0 r0
          else
           g n_ turns (w64 (i + 1)) list1 b0 r0
    else
     none
   else
    none
  else
   none
 else
  b0 n_ turns i list1
def LX : T18 α
 | 0 => fun _ _ _ _ _ _ => none
 | k + 1 => ab1 FX Dk aac jy aaj (LX k) k
def afJ (G6 : T18 α) : T19 α := fun k list r0 =>
 bif decide ((list.length : Int) < 3) then
  r0 false
 else
 bif decide (12 < (list.length : Int)) then
  r0 false
 else
  G6 k (list.length : Int) 0 0 list
   (fun _ turns1 _ _ =>
     r0 (decide (turns1 = 1)))
   r0
def uK : T19 α := afJ LX
def acb (F0 : T12 α) (F1 : T19 α) : T20 α := fun k list r0 r1 =>
 F0 k list fun v =>
 bif decide ((v.length : Int) < 3) then
  r0 5
 else
  F1 k v fun v1 =>
  bif (!v1) then
   r0 3
  else
   r1 v 0
def vW : T20 α := acb Ey uK
def XZ (F1 : T5 α) (g : Int → Int → Int → Int → Int → (List (Int × Int)) → List Int → (Int → Int → Int → Int → Int → (List (Int × Int)) → List Int → Option α) → (Int → Int → Option α) → ((List (Int × Int)) → Int → Int → Option α) → Option α) : T21 α := fun k most2 k_1 n_ s5 s6 all b_1 b2 r0 r1 =>
 bif decide (0 < n_) then
  F1 k b_1 s5 s6 most2 fun v3 v4 v5 v6 =>
  bif decide (((List.length all) + 1) ≤ big) then
   g most2 k_1 (w64 (n_ - 1)) v5 v6 (all ++ [(v3, v4)]) b_1 b2 r0 r1
  else
   none
 else
  b2 most2 k_1 n_ s5 s6 all b_1
def zq : T21 α
 | 0 => fun _ _ _ _ _ _ _ _ _ _ => none
 | k + 1 => XZ pW (zq k) k
def Vz (F0 : T3 α) (F2 : T20 α) (G6 : T21 α) (g : Int → Int → Int → Int → List Int → (Int → Int → Int → Int → List Int → Option α) → (Int → Int → Option α) → ((List (Int × Int)) → Int → Int → Option α) → Option α) : T22 α := fun k most1 k_ s3 s4 b_ b0 r0 r1 =>
 bif decide (k_ < 6) then
  F0 k b_ s3 s4 6 fun v v1 v2 =>
  G6 k most1 k_ (w64 (3 + v)) v1 v2 [] b_
   (fun most3 k_2 _ s7 s8 all1 b_2 =>
     F2 k all1
      (fun v7 =>
        bif decide (v7 = 0) then
         r0 s7 s8
        else
         g most3 (w64 (k_2 + 1)) s7 s8 b_2 b0 r0 r1)
      (fun v8 v9 =>
        bif decide (v9 = 0) then
         r1 v8 s7 s8
        else
         g most3 (w64 (k_2 + 1)) s7 s8 b_2 b0 r0 r1))
   r0 r1
 else
  b0 most1 k_ s3 s4 b_
def rW : T22 α
 | 0 => fun _ _ _ _ _ _ _ _ => none
 | k + 1 => Vz kK vW zq (rW k) k
def acX (G2 : T22 α) : T23 α := fun k s s1 s2 most r0 r1 =>
 G2 k most 0 s1 s2 s
  (fun _ _ s9 s10 _ =>
    r1 [(0, 0), (1, 0), (0, 1)] s9 s10)
  r0 r1
def aag : T23 α := acX rW
def aga (F0 : T3 α) (F1 : T4 α) : T24 α := fun k s s1 s2 r0 =>
 F0 k s s1 s2 0 fun v v1 v2 =>
 bif (decide (0 ≤ v) && decide (v ≤ 0)) then
  bif (decide (0 ≤ v) && decide (v ≤ 0)) then
   F0 k s v1 v2 40 fun v3 v4 v5 =>
   bif decide (v3 = 0) then
    none
   else
   bif decide (v3 = 1) then
    none
   else
   bif decide (v3 = 2) then
    F1 k s v4 v5 [1001, (-1001), 1099511627776] fun _ _ _ =>
    none
   else
   bif decide (v3 = 3) then
    r0 [] v4 v5
   else
    r0 [] v4 v5
  else
   none
 else
  none
def ad7 : T24 α := aga kK sW
def ae0 (F0 : T3 α) (F1 : T4 α) : T25 α := fun k s s1 s2 list r0 =>
 F0 k s s1 s2 (list.length : Int) fun v v1 v2 =>
 bif (decide (0 ≤ v) && decide (v ≤ (list.length : Int))) then
  bif (decide (0 ≤ v) && decide (v ≤ (list.length : Int))) then
   bif decide ((0 + (List.length (List.take ((List.length list) - v.toNat) (List.drop v.toNat list)))) ≤ big) then
    bif decide (((List.length ([] ++ (List.take ((List.length list) - v.toNat) (List.drop v.toNat list)))) + (List.length (List.take (v.toNat - 0) (List.drop 0 list)))) ≤ big) then
     F0 k s v1 v2 40 fun v3 v4 v5 =>
     bif decide (v3 = 0) then
      bif (true && decide (2 ≤ (((List.length (([] ++ (List.take ((List.length list) - v.toNat) (List.drop v.toNat list))) ++ (List.take (v.toNat - 0) (List.drop 0 list)))) : Nat) : Int))) then
       r0 (List.take 2 (([] ++ (List.take ((List.length list) - v.toNat) (List.drop v.toNat list))) ++ (List.take (v.toNat - 0) (List.drop 0 list)))) v4 v5
      else
       none
     else
     bif decide (v3 = 1) then
      bif (true && decide (0 < (((List.length (([] ++ (List.take ((List.length list) - v.toNat) (List.drop v.toNat list))) ++ (List.take (v.toNat - 0) (List.drop 0 list)))) : Nat) : Int))) then
       ((([] ++ (List.take ((List.length list) - v.toNat) (List.drop v.toNat list))) ++ (List.take (v.toNat - 0) (List.drop 0 list)))[0]?).bind fun e_ =>
       bif (true && decide (1 < (((List.length (([] ++ (List.take ((List.length list) - v.toNat) (List.drop v.toNat list))) ++ (List.take (v.toNat - 0) (List.drop 0 list)))) : Nat) : Int))) then
        ((([] ++ (List.take ((List.length list) - v.toNat) (List.drop v.toNat list))) ++ (List.take (v.toNat - 0) (List.drop 0 list)))[1]?).bind fun e_1 =>
        bif (true && decide (0 < (((List.length (([] ++ (List.take ((List.length list) - v.toNat) (List.drop v.toNat list))) ++ (List.take (v.toNat - 0) (List.drop 0 list)))) : Nat) : Int))) then
         ((([] ++ (List.take ((List.length list) - v.toNat) (List.drop v.toNat list))) ++ (List.take (v.toNat - 0) (List.drop 0 list)))[0]?).bind fun _ =>
         bif (true && decide (1 < (((List.length (List.set (([] ++ (List.take ((List.length list) - v.toNat) (List.drop v.toNat list))) ++ (List.take (v.toNat - 0) (List.drop 0 list))) 0 (e_1.1, e_1.2))) : Nat) : Int))) then
          ((List.set (([] ++ (List.take ((List.length list) - v.toNat) (List.drop v.toNat list))) ++ (List.take (v.toNat - 0) (List.drop 0 list))) 0 (e_1.1, e_1.2))[1]?).bind fun _ =>
          r0 (List.set (List.set (([] ++ (List.take ((List.length list) - v.toNat) (List.drop v.toNat list))) ++ (List.take (v.toNat - 0) (List.drop 0 list))) 0 (e_1.1, e_1.2)) 1 (e_.1, e_.2)) v4 v5
         else
          none
        else
         none
       else
        none
      else
       none
     else
     bif decide (v3 = 2) then
      F1 k s v4 v5 [1001, (-1001), 1099511627776] fun v6 v7 v8 =>
      bif (true && decide (0 < (((List.length (([] ++ (List.take ((List.length list) - v.toNat) (List.drop v.toNat list))) ++ (List.take (v.toNat - 0) (List.drop 0 list)))) : Nat) : Int))) then
       ((([] ++ (List.take ((List.length list) - v.toNat) (List.drop v.toNat list))) ++ (List.take (v.toNat - 0) (List.drop 0 list)))[0]?).bind fun _ =>
       r0 (List.set (([] ++ (List.take ((List.length list) - v.toNat) (List.drop v.toNat list))) ++ (List.take (v.toNat - 0) (List.drop 0 list))) 0 (v6, 0)) v7 v8
      else
       none
     else
     bif decide (v3 = 3) then
      bif decide (((List.length (([] ++ (List.take ((List.length list) - v.toNat) (List.drop v.toNat list))) ++ (List.take (v.toNat - 0) (List.drop 0 list)))) + (List.length (([] ++ (List.take ((List.length list) - v.toNat) (List.drop v.toNat list))) ++ (List.take (v.toNat - 0) (List.drop 0 list))))) ≤ big) then
       r0 ((([] ++ (List.take ((List.length list) - v.toNat) (List.drop v.toNat list))) ++ (List.take (v.toNat - 0) (List.drop 0 list))) ++ (([] ++ (List.take ((List.length list) - v.toNat) (List.drop v.toNat list))) ++ (List.take (v.toNat - 0) (List.drop 0 list)))) v4 v5
      else
       none
     else
      r0 (([] ++ (List.take ((List.length list) - v.toNat) (List.drop v.toNat list))) ++ (List.take (v.toNat - 0) (List.drop 0 list))) v4 v5
    else
     none
   else
    none
  else
   none
 else
  none
def aaV : T25 α := ae0 kK sW
def ael (F0 : T4 α) (F1 : T23 α) (F2 : T24 α) (F3 : T25 α) : T24 α := fun k s s1 s2 r0 =>
 F0 k s s1 s2 [2, 3, 5, 10, 100, 1000] fun v v1 v2 =>
 F1 k s v1 v2 v
  (fun v3 v4 =>
    F2 k s v3 v4 fun v5 v6 v7 =>
    r0 v5 v6 v7)
  (fun v8 v9 v10 =>
    F3 k s v9 v10 v8 fun v11 v12 v13 =>
    r0 v11 v12 v13)
def vX : T24 α := ael sW aag ad7 aaV
def ach (F0 : T2 α) (F1 : T24 α) : T26 α := fun k code r0 =>
 F0 k code fun v v1 =>
 F1 k code v v1 fun v2 _ _ =>
 r0 v2
def bY : T26 α := ach sV vX
def ajb : T13 α := fun _ n_ low high r0 =>
 bif decide (low ≤ n_) then
  r0 (decide (n_ ≤ high))
 else
  r0 false
def Sj : T13 α := ajb
def adC (F0 : T13 α) : T15 α := fun k a a1 r0 =>
 F0 k a (-1000) 1000 fun v =>
 bif v then
  F0 k a1 (-1000) 1000 fun v1 =>
  r0 v1
 else
  r0 false
def aap : T15 α := adC Sj
def abr (F0 : T15 α) : T15 α := fun k a a1 r0 =>
 F0 k a a1 fun v =>
 r0 (!v)
def TK : T15 α := abr aap
def qQ (F0 : T15 α) (g : Int → Int → (List (Int × Int)) → (Int → Int → (List (Int × Int)) → Option α) → (Int → Option α) → Option α) : T27 α := fun k x x1 s1 b0 r0 =>
 bif decide (x1 < x) then
  bif (decide (0 ≤ x1) && decide (x1 < (s1.length : Int))) then
   (s1[x1.toNat]?).bind fun e_ =>
   F0 k e_.1 e_.2 fun v =>
   bif v then
    r0 x1
   else
    g x (w64 (x1 + 1)) s1 b0 r0
  else
   none
 else
  b0 x x1 s1
def jJ : T27 α
 | 0 => fun _ _ _ _ _ => none
 | k + 1 => qQ TK (jJ k) k
def qy (G2 : T27 α) : T28 α := fun k s r0 =>
 G2 k (s.length : Int) 0 s
  (fun _ _ _ =>
    r0 (-1))
  r0
def nY : T28 α := qy jJ
def pY (F0 : T28 α) : T19 α := fun k s r0 =>
 F0 k s fun v =>
 r0 (decide (0 ≤ v))
def mW : T19 α := pY nY
def Hz : T29 α := fun _ p_ i r0 =>
 bif decide ((p_.length : Int) = 0) then
  none
 else
 bif (decide (0 ≤ (Int.tmod (w64 (i + 1)) (p_.length : Int))) && decide ((Int.tmod (w64 (i + 1)) (p_.length : Int)) < (p_.length : Int))) then
  (p_[(Int.tmod (w64 (i + 1)) (p_.length : Int)).toNat]?).bind fun e_ =>
  r0 e_.1 e_.2
 else
  none
def lY : T29 α := Hz
def LY : T7 α := fun _ a a1 b_ b_1 k_ r0 =>
 r0 (w64 (a + (w64 (k_ * b_)))) (w64 (a1 + (w64 (k_ * b_1))))
def yX : T7 α := LY
def Qz (F0 : T7 α) : T30 α := fun k a a1 b_ b_1 r0 =>
 F0 k a a1 b_ b_1 (-1) fun v v1 =>
 r0 v v1
def oJ : T30 α := Qz yX
def aaG : T8 α := fun _ a a1 b_ b_1 r0 =>
 r0 (w64 ((w64 (a * b_1)) - (w64 (a1 * b_))))
def FQ : T8 α := aaG
def agO (F0 : T30 α) (F1 : T8 α) : T16 α := fun k a a1 b_ b_1 c c1 r0 =>
 F0 k b_ b_1 a a1 fun v v1 =>
 F0 k c c1 b_ b_1 fun v2 v3 =>
 F1 k v v1 v2 v3 fun v4 =>
 r0 v4
def Gz : T16 α := agO oJ FQ
def MZ (F1 : T16 α) (g : Int → Int → Int → Int → Int → (List (Int × Int)) → Int → Int → Int → Int → (Int → Int → Int → Int → Int → (List (Int × Int)) → Int → Int → Int → Int → Option α) → (Bool → Option α) → Option α) : T31 α := fun k i x2 x3 x4 x5 p_2 a a1 b_ b_1 b2 r0 =>
 bif decide (x5 < x4) then
  bif (decide (0 ≤ x5) && decide (x5 < (p_2.length : Int))) then
   (p_2[x5.toNat]?).bind fun e_1 =>
   bif (!decide (x5 = i)) then
    bif decide ((p_2.length : Int) = 0) then
     none
    else
    bif (!decide (x5 = (Int.tmod (w64 (i + 1)) (p_2.length : Int)))) then
     F1 k a a1 b_ b_1 e_1.1 e_1.2 fun v2 =>
     bif decide (v2 ≤ 0) then
      r0 false
     else
      g i x2 x3 x4 (w64 (x5 + 1)) p_2 a a1 b_ b_1 b2 r0
    else
     g i x2 x3 x4 (w64 (x5 + 1)) p_2 a a1 b_ b_1 b2 r0
   else
    g i x2 x3 x4 (w64 (x5 + 1)) p_2 a a1 b_ b_1 b2 r0
  else
   none
 else
  b2 i x2 x3 x4 x5 p_2 a a1 b_ b_1
def tK : T31 α
 | 0 => fun _ _ _ _ _ _ _ _ _ _ _ _ => none
 | k + 1 => MZ Gz (tK k) k
def MJ (F0 : T29 α) (G6 : T31 α) (g : Int → Int → (List (Int × Int)) → (Int → Int → (List (Int × Int)) → Option α) → (Bool → Option α) → Option α) : T32 α := fun k x x1 p_1 b0 r0 =>
 bif decide (x1 < x) then
  bif (decide (0 ≤ x1) && decide (x1 < (p_1.length : Int))) then
   (p_1[x1.toNat]?).bind fun e_ =>
   F0 k p_1 x1 fun v v1 =>
   G6 k x1 x x1 (p_1.length : Int) 0 p_1 e_.1 e_.2 v v1
    (fun _ x6 x7 _ _ p_3 _ _ _ _ =>
      g x6 (w64 (x7 + 1)) p_3 b0 r0)
    r0
  else
   none
 else
  b0 x x1 p_1
def qK : T32 α
 | 0 => fun _ _ _ _ _ => none
 | k + 1 => MJ lY tK (qK k) k
def Zv (G2 : T32 α) : T19 α := fun k p_ r0 =>
 G2 k (p_.length : Int) 0 p_
  (fun _ _ _ =>
    r0 true)
  r0
def Uk : T19 α := Zv qK
def acH (F0 : T13 α) (F1 : T19 α) (F2 : T19 α) : T19 α := fun k list r0 =>
 F0 k (list.length : Int) 3 12 fun v =>
 bif (!v) then
  r0 false
 else
  F1 k list fun v1 =>
  bif v1 then
   r0 false
  else
   F2 k list fun v2 =>
   r0 v2
def ay : T19 α := acH Sj mW Uk
def YK : T14 α := fun _ x r0 =>
 r0 (!decide (x = x))
def WQ : T14 α := YK
def Uy (F0 : T14 α) : T17 α := fun k x y r0 =>
 F0 k x fun v =>
 F0 k y fun v1 =>
 bif v then
  bif v1 then
   r0 0
  else
   r0 (-1)
 else
 bif v1 then
  r0 1
 else
 bif decide (x < y) then
  r0 (-1)
 else
 bif decide (y < x) then
  r0 1
 else
  r0 0
def xq : T17 α := Uy WQ
def ZX (g : Int → Int → Int → List Int → (Int → Int → Int → List Int → Option α) → (Int → Option α) → Option α) : T33 α := fun _ zero x x1 x2 b0 r0 =>
 bif decide (x1 < x) then
  bif (decide (0 ≤ x1) && decide (x1 < (x2.length : Int))) then
   (x2[x1.toNat]?).bind fun e_ =>
   bif (!decide (e_ = zero)) then
    r0 e_
   else
    g zero x (w64 (x1 + 1)) x2 b0 r0
  else
   none
 else
  b0 zero x x1 x2
def Lj : T33 α
 | 0 => fun _ _ _ _ _ _ => none
 | k + 1 => ZX (Lj k) k
def af8 (G3 : T33 α) : T34 α := fun k vals r0 =>
 G3 k 0 (vals.length : Int) 0 vals
  (fun zero1 _ _ _ =>
    r0 zero1)
  r0
def adf : T34 α := af8 Lj
def acl (F0 : T17 α) (F1 : T34 α) : T8 α := fun k a a1 b_ b_1 r0 =>
 F0 k a b_ fun v =>
 F0 k a1 b_1 fun v1 =>
 F1 k [v, v1] fun v2 =>
 r0 v2
def oZ : T8 α := acl xq adf
def mZ (F0 : T8 α) (g : Int → (List (Int × Int)) → Int → Int → Int → Int → (Int → (List (Int × Int)) → Int → Int → Int → Int → Option α) → (Int → Int → Option α) → Option α) : T35 α := fun k i x1 x2 x3 m m1 b0 r0 =>
 bif decide (i < (x1.length : Int)) then
  bif (decide (0 ≤ i) && decide (i < (x1.length : Int))) then
   (x1[i.toNat]?).bind fun e_1 =>
   F0 k e_1.1 e_1.2 m m1 fun v =>
   bif decide (v < 0) then
    bif (decide (0 ≤ i) && decide (i < (x1.length : Int))) then
     (x1[i.toNat]?).bind fun e_2 =>
     g (w64 (i + 1)) x1 x2 x3 e_2.1 e_2.2 b0 r0
    else
     none
   else
    g (w64 (i + 1)) x1 x2 x3 m m1 b0 r0
  else
   none
 else
  b0 i x1 x2 x3 m m1
def iZ : T35 α
 | 0 => fun _ _ _ _ _ _ _ _ => none
 | k + 1 => mZ oZ (iZ k) k
def rV (G5 : T35 α) : T36 α := fun k x r0 =>
 bif decide ((x.length : Int) < 1) then
  none
 else
 bif (true && decide (0 < (x.length : Int))) then
  (x[0]?).bind fun e_ =>
  G5 k 1 x 0 0 e_.1 e_.2
   (fun _ _ _ _ m2 m3 =>
     r0 m2 m3)
   r0
 else
  none
def lQ : T36 α := rV iZ
def Bz (g : Int → Int → (List (Int × Int)) → Int → Int → (Int → Int → (List (Int × Int)) → Int → Int → Option α) → (Int → Option α) → Option α) : T37 α := fun _ x x1 s1 v2 v3 b0 r0 =>
 bif decide (x1 < x) then
  bif (decide (0 ≤ x1) && decide (x1 < (s1.length : Int))) then
   (s1[x1.toNat]?).bind fun e_ =>
   bif (decide (v2 = e_.1) && decide (v3 = e_.2)) then
    r0 x1
   else
    g x (w64 (x1 + 1)) s1 v2 v3 b0 r0
  else
   none
 else
  b0 x x1 s1 v2 v3
def lw : T37 α
 | 0 => fun _ _ _ _ _ _ _ => none
 | k + 1 => Bz (lw k) k
def Dz (G2 : T37 α) : T38 α := fun k s v v1 r0 =>
 G2 k (s.length : Int) 0 s v v1
  (fun _ _ _ _ _ =>
    r0 (-1))
  r0
def uV : T38 α := Dz lw
def Bj : T39 α := fun _ n_ r0 r1 =>
 bif decide (n_ < 0) then
  none
 else
 bif decide (0 < (w64 (n_ - 0))) then
  bif (decide (1 ≤ (w64 (n_ - 0))) && decide ((w64 (n_ - 0)) ≤ (big : Int))) then
   bif (true && decide (0 ≤ (((List.length (List.replicate ((w64 (n_ - 0)).toNat) (0, 0))) : Nat) : Int))) then
    r0 (List.take 0 (List.replicate ((w64 (n_ - 0)).toNat) (0, 0)))
   else
    none
  else
   none
 else
  r1
def wK : T39 α := Bj
def zV (F0 : T39 α) : T40 α := fun k slices slices1 r0 =>
 bif decide ((w64 (0 + (slices.length : Int))) < 0) then
  none
 else
 bif decide ((w64 ((w64 (0 + (slices.length : Int))) + (slices1.length : Int))) < 0) then
  none
 else
  F0 k (w64 ((w64 (0 + (slices.length : Int))) + (slices1.length : Int)))
   (fun v =>
     bif decide (((List.length v) + (List.length slices)) ≤ big) then
      bif decide (((List.length (v ++ slices)) + (List.length slices1)) ≤ big) then
       r0 ((v ++ slices) ++ slices1)
      else
       none
     else
      none)
   (
     bif decide ((List.length slices) ≤ big) then
      bif decide (((List.length slices) + (List.length slices1)) ≤ big) then
       r0 (slices ++ slices1)
      else
       none
     else
      none)
def iQ : T40 α := zV wK
def YV (F0 : T36 α) (F1 : T38 α) (F2 : T40 α) : T12 α := fun k p_ r0 =>
 F0 k p_ fun v v1 =>
 F1 k p_ v v1 fun v2 =>
 bif (decide (0 ≤ v2) && decide (v2 ≤ (p_.length : Int))) then
  bif (decide (0 ≤ v2) && decide (v2 ≤ (p_.length : Int))) then
   F2 k (List.take ((List.length p_) - v2.toNat) (List.drop v2.toNat p_)) (List.take (v2.toNat - 0) (List.drop 0 p_)) fun v3 =>
   r0 v3
  else
   none
 else
  none
def KX : T12 α := YV lQ uV iQ
def aaZ (F0 : T19 α) (F1 : T12 α) : T20 α := fun k list r0 r1 =>
 F0 k list fun v =>
 bif (!v) then
  r0 1
 else
  F1 k list fun v1 =>
  r1 v1 0
def fK : T20 α := aaZ ay KX
def Jj (F0 : T19 α) : T28 α := fun k lists r0 =>
 F0 k lists fun v =>
 bif (!v) then
  r0 1
 else
  r0 0
def tZ : T28 α := Jj uK
def Yw (F0 : T6 α) (g : Int → Int → (List (Int × Int)) → (Int → Int → (List (Int × Int)) → Option α) → ((List (Int × Int)) → Option α) → Option α) : T41 α := fun k first i list1 b0 r0 =>
 bif decide (i < (list1.length : Int)) then
  bif (decide (0 ≤ i) && decide (i < (list1.length : Int))) then
   (list1[i.toNat]?).bind fun e_ =>
   bif (decide (0 ≤ first) && decide (first < (list1.length : Int))) then
    (list1[first.toNat]?).bind fun e_1 =>
    F0 k e_.1 e_.2 e_1.1 e_1.2 fun v =>
    bif v then
     g i (w64 (i + 1)) list1 b0 r0
    else
     g first (w64 (i + 1)) list1 b0 r0
   else
    none
  else
   none
 else
  b0 first i list1
def Ew : T41 α
 | 0 => fun _ _ _ _ _ => none
 | k + 1 => Yw uj (Ew k) k
def adn (G3 : T41 α) : T12 α := fun k list r0 =>
 G3 k 0 0 list
  (fun first1 _ list2 =>
    bif (decide (0 ≤ first1) && decide (first1 ≤ (list2.length : Int))) then
     bif (decide (0 ≤ first1) && decide (first1 ≤ (list2.length : Int))) then
      bif decide ((0 + (List.length (List.take ((List.length list2) - first1.toNat) (List.drop first1.toNat list2)))) ≤ big) then
       bif decide (((List.length ([] ++ (List.take ((List.length list2) - first1.toNat) (List.drop first1.toNat list2)))) + (List.length (List.take (first1.toNat - 0) (List.drop 0 list2)))) ≤ big) then
        r0 (([] ++ (List.take ((List.length list2) - first1.toNat) (List.drop first1.toNat list2))) ++ (List.take (first1.toNat - 0) (List.drop 0 list2)))
       else
        none
      else
       none
     else
      none
    else
     none)
  r0
def aaQ : T12 α := adn Ew
def aa3 (F0 : T28 α) (F1 : T12 α) : T20 α := fun k list r0 r1 =>
 F0 k list fun v =>
 bif (!decide (v = 0)) then
  r0 v
 else
  F1 k list fun v1 =>
  r1 v1 0
def fV : T20 α := aa3 tZ aaQ
def ade : T42 α := fun _ r0 =>
 r0 true
def gJ : T42 α := ade
def acG (F0 : T19 α) : T19 α := fun k list r0 =>
 F0 k list fun v =>
 r0 v
def gX : T19 α := acG uK
def aes (F0 : T13 α) : T14 α := fun k n_ r0 =>
 F0 k n_ (-1000000) 1000000 fun v =>
 r0 v
def abp : T14 α := aes Sj
def aei (F0 : T14 α) : T15 α := fun k a a1 r0 =>
 F0 k a fun v =>
 bif v then
  F0 k a1 fun v1 =>
  r0 v1
 else
  r0 false
def IQ : T15 α := aei abp
def adt (F0 : T15 α) : T15 α := fun k a a1 r0 =>
 F0 k a a1 fun v =>
 r0 (!v)
def aaN : T15 α := adt IQ
def rY (F0 : T15 α) (g : Int → Int → (List (Int × Int)) → (Int → Int → (List (Int × Int)) → Option α) → (Int → Option α) → Option α) : T27 α := fun k x x1 s1 b0 r0 =>
 bif decide (x1 < x) then
  bif (decide (0 ≤ x1) && decide (x1 < (s1.length : Int))) then
   (s1[x1.toNat]?).bind fun e_ =>
   F0 k e_.1 e_.2 fun v =>
   bif v then
    r0 x1
   else
    g x (w64 (x1 + 1)) s1 b0 r0
  else
   none
 else
  b0 x x1 s1
def jZ : T27 α
 | 0 => fun _ _ _ _ _ => none
 | k + 1 => rY aaN (jZ k) k
def rq (G2 : T27 α) : T28 α := fun k s r0 =>
 G2 k (s.length : Int) 0 s
  (fun _ _ _ =>
    r0 (-1))
  r0
def oQ : T28 α := rq jZ
def qj (F0 : T28 α) : T19 α := fun k s r0 =>
 F0 k s fun v =>
 r0 (decide (0 ≤ v))
def nV : T19 α := qj oQ
def ae4 (F0 : T19 α) : T19 α := fun k list r0 =>
 F0 k list fun v =>
 r0 (!v)
def xw : T19 α := ae4 nV
noncomputable def yV : T43 α := fun _ s r0 r1 =>
 bif Nat.beq (List.length s) 0 then
  both
   (
     r0)
   (
     bif decide ((0 + (List.length s)) ≤ big) then
      r1 ([] ++ s)
     else
      none)
 else
 bif decide ((0 + (List.length s)) ≤ big) then
  r1 ([] ++ s)
 else
  none
noncomputable def vV : T43 α := yV
def mX (_ : Nat) (r0 : Option α) : Option α := r0
def Jy : T44 α := fun _ r0 =>
 r0
def wV : T44 α := Jy
def adr : T45 α := fun _ r0 =>
 r0 []
def IK : T45 α := adr
def Aj : T44 α := fun _ r0 =>
 r0
def lq : T44 α := Aj
def wz : T39 α := fun _ n_ r0 r1 =>
 bif decide (n_ < 0) then
  none
 else
 bif decide (0 < (w64 (n_ - 0))) then
  bif (decide (1 ≤ (w64 (n_ - 0))) && decide ((w64 (n_ - 0)) ≤ (big : Int))) then
   bif (true && decide (0 ≤ (((List.length (List.replicate ((w64 (n_ - 0)).toNat) (0, 0))) : Nat) : Int))) then
    r0 (List.take 0 (List.replicate ((w64 (n_ - 0)).toNat) (0, 0)))
   else
    none
  else
   none
 else
  r1
def uZ : T39 α := wz
def vZ (F0 : T39 α) : T40 α := fun k slices slices1 r0 =>
 bif decide ((w64 (0 + (slices.length : Int))) < 0) then
  none
 else
 bif decide ((w64 ((w64 (0 + (slices.length : Int))) + (slices1.length : Int))) < 0) then
  none
 else
  F0 k (w64 ((w64 (0 + (slices.length : Int))) + (slices1.length : Int)))
   (fun v =>
     bif decide (((List.length v) + (List.length slices)) ≤ big) then
      bif decide (((List.length (v ++ slices)) + (List.length slices1)) ≤ big) then
       r0 ((v ++ slices) ++ slices1)
      else
       none
     else
      none)
   (
     bif decide ((List.length slices) ≤ big) then
      bif decide (((List.length slices) + (List.length slices1)) ≤ big) then
       r0 (slices ++ slices1)
      else
       none
     else
      none)
def kJ : T40 α := vZ uZ
noncomputable def iK (k : Nat) (x : List (Int × Int)) (r0 : (List (Int × Int)) → Option α) : Option α := anI (fun (p q : Int × Int) => oZ k p.1 p.2 q.1 q.2) x r0
def qw (g : Int → Nat → Nat → Int → (List (Int × Int)) → (Int → Nat → Nat → Int → (List (Int × Int)) → Option α) → ((List (Int × Int)) → Option α) → Option α) : T46 α := fun _ k_1 s2_ s2_1 k2_ s2 b2 r0 =>
 bif decide (k2_ < ((s2_1 : Nat) : Int)) then
  bif (decide (0 ≤ k2_) && decide (k2_ < ((s2_1 : Nat) : Int))) then
   (s2[(AY s2_ k2_.toNat 1)]?).bind fun e_2 =>
   bif (decide (0 ≤ (w64 (k2_ - 1))) && decide ((w64 (k2_ - 1)) < ((s2_1 : Nat) : Int))) then
    (s2[(AY s2_ ((w64 (k2_ - 1)).toNat) 1)]?).bind fun e_3 =>
    bif (!(decide (e_2.1 = e_3.1) && decide (e_2.2 = e_3.2))) then
     bif (decide (0 ≤ k2_) && decide (k2_ < ((s2_1 : Nat) : Int))) then
      (s2[(AY s2_ k2_.toNat 1)]?).bind fun e_4 =>
      bif (decide (0 ≤ k_1) && decide (k_1 < (s2.length : Int))) then
       (s2[k_1.toNat]?).bind fun _ =>
       g (w64 (k_1 + 1)) s2_ s2_1 (w64 (k2_ + 1)) (List.set s2 k_1.toNat (e_4.1, e_4.2)) b2 r0
      else
       none
     else
      none
    else
     g k_1 s2_ s2_1 (w64 (k2_ + 1)) s2 b2 r0
   else
    none
  else
   none
 else
  b2 k_1 s2_ s2_1 k2_ s2
def jY : T46 α
 | 0 => fun _ _ _ _ _ _ _ => none
 | k + 1 => qw (jY k) k
def vz (G9 : T46 α) (g : Int → (List (Int × Int)) → (Int → (List (Int × Int)) → Option α) → ((List (Int × Int)) → Option α) → Option α) : T47 α := fun k k_ s1 b0 r0 =>
 bif decide (k_ < (s1.length : Int)) then
  bif (decide (0 ≤ k_) && decide (k_ < (s1.length : Int))) then
   (s1[k_.toNat]?).bind fun e_ =>
   bif (decide (0 ≤ (w64 (k_ - 1))) && decide ((w64 (k_ - 1)) < (s1.length : Int))) then
    (s1[(w64 (k_ - 1)).toNat]?).bind fun e_1 =>
    bif (decide (e_.1 = e_1.1) && decide (e_.2 = e_1.2)) then
     bif (decide (0 ≤ k_) && decide (k_ ≤ (s1.length : Int))) then
      G9 k k_ k_.toNat ((List.length s1) - k_.toNat) 1 s1
       (fun k_2 _ _ _ s3 =>
         bif (decide (0 ≤ k_2) && decide (k_2 ≤ (s3.length : Int))) then
          bif (decide (0 ≤ k_2) && decide (k_2 ≤ (((List.length (((List.take k_2.toNat s3) ++ (List.replicate ((List.length s3) - k_2.toNat) (0, 0))) ++ (List.drop (k_2.toNat + ((List.length s3) - k_2.toNat)) s3))) : Nat) : Int))) then
           r0 (List.take (k_2.toNat - 0) (((List.take k_2.toNat s3) ++ (List.replicate ((List.length s3) - k_2.toNat) (0, 0))) ++ (List.drop (k_2.toNat + ((List.length s3) - k_2.toNat)) s3)))
          else
           none
         else
          none)
       r0
     else
      none
    else
     g (w64 (k_ + 1)) s1 b0 r0
   else
    none
  else
   none
 else
  b0 k_ s1
def kW : T47 α
 | 0 => fun _ _ _ _ => none
 | k + 1 => vz jY (kW k) k
def DK (G4 : T47 α) : T12 α := fun k s r0 =>
 bif decide ((s.length : Int) < 2) then
  r0 s
 else
  G4 k 1 s
   (fun _ s4 =>
     r0 s4)
   r0
def lW : T12 α := DK kW
def aah (F0 : T16 α) (g : Int → Int → (List (Int × Int)) → Int → Int → (List (Int × Int)) → (Int → Int → (List (Int × Int)) → Int → Int → (List (Int × Int)) → Option α) → ((List (Int × Int)) → Option α) → Option α) : T48 α := fun k x3 x4 out1 c c1 x5 b2 r0 =>
 bif decide (1 < (out1.length : Int)) then
  bif (decide (0 ≤ (w64 ((out1.length : Int) - 2))) && decide ((w64 ((out1.length : Int) - 2)) < (out1.length : Int))) then
   (out1[(w64 ((out1.length : Int) - 2)).toNat]?).bind fun e_1 =>
   bif (decide (0 ≤ (w64 ((out1.length : Int) - 1))) && decide ((w64 ((out1.length : Int) - 1)) < (out1.length : Int))) then
    (out1[(w64 ((out1.length : Int) - 1)).toNat]?).bind fun e_2 =>
    F0 k e_1.1 e_1.2 e_2.1 e_2.2 c c1 fun v =>
    bif decide (v ≤ 0) then
     bif (decide (0 ≤ (w64 ((out1.length : Int) - 1))) && decide ((w64 ((out1.length : Int) - 1)) ≤ (out1.length : Int))) then
      g x3 x4 (List.take ((w64 ((out1.length : Int) - 1)).toNat - 0) out1) c c1 x5 b2 r0
     else
      none
    else
     b2 x3 x4 out1 c c1 x5
   else
    none
  else
   none
 else
  b2 x3 x4 out1 c c1 x5
def FY : T48 α
 | 0 => fun _ _ _ _ _ _ _ _ => none
 | k + 1 => aah Gz (FY k) k
def ace (G5 : T48 α) (g : Int → Int → (List (Int × Int)) → (List (Int × Int)) → (Int → Int → (List (Int × Int)) → (List (Int × Int)) → Option α) → ((List (Int × Int)) → Option α) → Option α) : T49 α := fun k x x1 out x2 b0 r0 =>
 bif decide (x1 < x) then
  bif (decide (0 ≤ x1) && decide (x1 < (x2.length : Int))) then
   (x2[x1.toNat]?).bind fun e_ =>
   G5 k x x1 out e_.1 e_.2 x2
    (fun x6 x7 out2 c2 c3 x8 =>
      bif decide (((List.length out2) + 1) ≤ big) then
       g x6 (w64 (x7 + 1)) (out2 ++ [(c2, c3)]) x8 b0 r0
      else
       none)
    r0
  else
   none
 else
  b0 x x1 out x2
def IY : T49 α
 | 0 => fun _ _ _ _ _ _ => none
 | k + 1 => ace FY (IY k) k
def afH (G3 : T49 α) : T12 α := fun k list r0 =>
 G3 k (list.length : Int) 0 [] list
  (fun _ _ out3 _ =>
    bif (decide (0 ≤ (max (w64 ((out3.length : Int) - 1)) 0)) && decide ((max (w64 ((out3.length : Int) - 1)) 0) ≤ (out3.length : Int))) then
     r0 (List.take ((max (w64 ((out3.length : Int) - 1)) 0).toNat - 0) out3)
    else
     none)
  r0
def aas : T12 α := afH IY
def rZ (g : Int → Int → (List (Int × Int)) → (Int → Int → (List (Int × Int)) → Option α) → ((List (Int × Int)) → Option α) → Option α) : T41 α := fun _ i j s1 b0 r0 =>
 bif decide (i < j) then
  bif (decide (0 ≤ j) && decide (j < (s1.length : Int))) then
   (s1[j.toNat]?).bind fun e_ =>
   bif (decide (0 ≤ i) && decide (i < (s1.length : Int))) then
    (s1[i.toNat]?).bind fun e_1 =>
    bif (decide (0 ≤ i) && decide (i < (s1.length : Int))) then
     (s1[i.toNat]?).bind fun _ =>
     bif (decide (0 ≤ j) && decide (j < (((List.length (List.set s1 i.toNat (e_.1, e_.2))) : Nat) : Int))) then
      ((List.set s1 i.toNat (e_.1, e_.2))[j.toNat]?).bind fun _ =>
      g (w64 (i + 1)) (w64 (j - 1)) (List.set (List.set s1 i.toNat (e_.1, e_.2)) j.toNat (e_1.1, e_1.2)) b0 r0
     else
      none
    else
     none
   else
    none
  else
   none
 else
  b0 i j s1
def kV : T41 α
 | 0 => fun _ _ _ _ _ => none
 | k + 1 => rZ (kV k) k
def Dq (G1 : T41 α) : T12 α := fun k s r0 =>
 G1 k 0 (w64 ((s.length : Int) - 1)) s
  (fun _ _ s2 =>
    r0 s2)
  r0
def pq : T12 α := Dq kV
def aeD (F0 : T43 α) (F1 : T44 α) (F2 : T44 α) (F3 : T45 α) (F4 : T44 α) (F5 : T40 α) (F6 : T19 α) (F7 : T12 α) (F8 : T12 α) (F9 : T12 α) (F10 : T12 α) : T20 α := fun k list r0 r1 =>
 F0 k list
  (
    F1 k <|
    F2 k <|
    F3 k fun v =>
    F4 k <|
    F3 k fun v1 =>
    F5 k v v1 fun v2 =>
    bif decide ((v2.length : Int) < 3) then
     r0 5
    else
     F6 k v2 fun v3 =>
     bif (!v3) then
      r0 3
     else
      r1 v2 0)
  (fun v4 =>
    F7 k v4 fun v5 =>
    F8 k v5 fun v6 =>
    F9 k v6 fun v7 =>
    F10 k v6 fun v8 =>
    F9 k v8 fun v9 =>
    F5 k v7 v9 fun v10 =>
    bif decide ((v10.length : Int) < 3) then
     r0 5
    else
     F6 k v10 fun v11 =>
     bif (!v11) then
      r0 3
     else
      r1 v10 0)
noncomputable def EY : T20 α := aeD vV mX wV IK lq kJ ay iK lW aas pq
def acE (F0 : T19 α) (F1 : T20 α) : T20 α := fun k list r0 r1 =>
 F0 k list fun v =>
 bif (!v) then
  r0 1
 else
 bif decide (100 < (list.length : Int)) then
  r0 2
 else
  F1 k list
   (fun v1 =>
     r0 v1)
   (fun v2 v3 =>
     r1 v2 v3)
noncomputable def iJ : T20 α := acE xw EY
def CQ (F0 : T29 α) (F1 : T8 α) (g : Int → Int → Int → (List (Int × Int)) → (Int → Int → Int → (List (Int × Int)) → Option α) → (Int → Option α) → Option α) : T50 α := fun k out x x1 p_1 b0 r0 =>
 bif decide (x1 < x) then
  bif (decide (0 ≤ x1) && decide (x1 < (p_1.length : Int))) then
   (p_1[x1.toNat]?).bind fun e_ =>
   F0 k p_1 x1 fun v v1 =>
   F1 k e_.1 e_.2 v v1 fun v2 =>
   g (w64 (out + v2)) x (w64 (x1 + 1)) p_1 b0 r0
  else
   none
 else
  b0 out x x1 p_1
def ny : T50 α
 | 0 => fun _ _ _ _ _ _ => none
 | k + 1 => CQ lY FQ (ny k) k
def Wq (G3 : T50 α) : T28 α := fun k p_ r0 =>
 G3 k 0 (p_.length : Int) 0 p_
  (fun out1 _ _ _ =>
    r0 out1)
  r0
def OQ : T28 α := Wq ny
def adN (F0 : T28 α) : T28 α := fun k p_ r0 =>
 F0 k p_ fun v =>
 r0 v
def DX : T28 α := adN OQ
def EJ (F0 : T19 α) (F1 : T28 α) : T36 α := fun k list r0 =>
 F0 k list fun v =>
 bif (!v) then
  r0 0 1
 else
  F1 k list fun v1 =>
  r0 v1 0
def yx : T36 α := EJ ay DX
def aaC (F0 : T36 α) : T36 α := fun k list r0 =>
 F0 k list fun v v1 =>
 r0 v v1
def fQ : T36 α := aaC yx
def aeF : T51 α := fun _ n_ r0 =>
 r0 (max n_ (w64 (0 - n_)))
def Aw : T51 α := aeF
def adq (g : Int → Int → (Int → Int → Option α) → (Int → Option α) → Option α) : T52 α := fun _ a1 b_1 b0 r0 =>
 bif (!decide (b_1 = 0)) then
  bif decide (b_1 = 0) then
   none
  else
   g b_1 (Int.tmod a1 b_1) b0 r0
 else
  b0 a1 b_1
def Ry : T52 α
 | 0 => fun _ _ _ _ => none
 | k + 1 => adq (Ry k) k
def ahX (F0 : T51 α) (G1 : T52 α) : T17 α := fun k a b_ r0 =>
 G1 k a b_
  (fun a2 _ =>
    F0 k a2 fun v =>
    r0 v)
  r0
def af1 : T17 α := ahX Aw Ry
def Uz (F0 : T17 α) : T17 α := fun k a a1 r0 =>
 F0 k a a1 fun v =>
 r0 v
def GX : T17 α := Uz af1
def VQ (F0 : T30 α) (F1 : T17 α) : T8 α := fun k a a1 b_ b_1 r0 =>
 F0 k b_ b_1 a a1 fun v v1 =>
 F1 k v v1 fun v2 =>
 r0 v2
def JX : T8 α := VQ oJ GX
def tJ (F0 : T29 α) (F1 : T8 α) (g : Int → Int → Int → (List (Int × Int)) → (Int → Int → Int → (List (Int × Int)) → Option α) → (Int → Option α) → Option α) : T50 α := fun k out x x1 p_1 b0 r0 =>
 bif decide (x1 < x) then
  bif (decide (0 ≤ x1) && decide (x1 < (p_1.length : Int))) then
   (p_1[x1.toNat]?).bind fun e_ =>
   F0 k p_1 x1 fun v v1 =>
   F1 k e_.1 e_.2 v v1 fun v2 =>
   g (w64 (out + v2)) x (w64 (x1 + 1)) p_1 b0 r0
  else
   none
 else
  b0 out x x1 p_1
def jv : T50 α
 | 0 => fun _ _ _ _ _ _ => none
 | k + 1 => tJ lY JX (jv k) k
def Ij (G3 : T50 α) : T28 α := fun k p_ r0 =>
 G3 k 0 (p_.length : Int) 0 p_
  (fun out1 _ _ _ =>
    r0 out1)
  r0
def AX : T28 α := Ij jv
def ac3 (F0 : T28 α) : T28 α := fun k p_ r0 =>
 F0 k p_ fun v =>
 r0 v
def zX : T28 α := ac3 AX
def CX (F0 : T19 α) (F1 : T28 α) : T36 α := fun k list r0 =>
 F0 k list fun v =>
 bif (!v) then
  r0 0 1
 else
  F1 k list fun v1 =>
  r0 v1 0
def xy : T36 α := CX ay zX
def aaY (F0 : T36 α) : T36 α := fun k list r0 =>
 F0 k list fun v v1 =>
 r0 v v1
def gQ : T36 α := aaY xy
def RZ (F0 : T28 α) (F1 : T28 α) : T28 α := fun k p_ r0 =>
 F0 k p_ fun v =>
 F1 k p_ fun v1 =>
 r0 (w64 (Int.tdiv (w64 ((w64 (v - v1)) + 2)) 2))
def Ov : T28 α := RZ DX zX
def xJ (F0 : T19 α) (F1 : T28 α) : T36 α := fun k list r0 =>
 F0 k list fun v =>
 bif (!v) then
  r0 0 1
 else
  F1 k list fun v1 =>
  r0 v1 0
def uY : T36 α := xJ ay Ov
def Vk (F0 : T36 α) : T36 α := fun k list r0 =>
 F0 k list fun v v1 =>
 r0 v v1
def fZ : T36 α := Vk uY
def Oq (F0 : T19 α) (F1 : T13 α) (F2 : T28 α) (F3 : T28 α) : T29 α := fun k list k_ r0 =>
 F0 k list fun v =>
 bif (!v) then
  r0 0 1
 else
  F1 k k_ 0 1000 fun v1 =>
  bif (!v1) then
   r0 0 2
  else
   F2 k list fun v2 =>
   F3 k list fun v3 =>
   r0 (w64 (Int.tdiv (w64 ((w64 ((w64 ((w64 (k_ * k_)) * v2)) + (w64 (k_ * v3)))) + 2)) 2)) 0
def ax : T29 α := Oq ay Sj DX zX
def agZ (F0 : T30 α) (F1 : T8 α) (F2 : T51 α) : T16 α := fun k a a1 b_ b_1 c c1 r0 =>
 F0 k b_ b_1 a a1 fun v v1 =>
 F0 k c c1 a a1 fun v2 v3 =>
 F1 k v v1 v2 v3 fun v4 =>
 F2 k v4 fun v5 =>
 r0 v5
def aeW : T16 α := agZ oJ FQ Aw
def ae2 (F0 : T19 α) (F1 : T16 α) : T53 α := fun k a a1 b_ b_1 c c1 r0 =>
 F0 k [(a, a1), (b_, b_1), (c, c1)] fun v =>
 bif (!v) then
  r0 0 1
 else
  F1 k a a1 b_ b_1 c c1 fun v1 =>
  r0 v1 0
def jQ : T53 α := ae2 xw aeW
def OV (F0 : T29 α) (F1 : T16 α) (F2 : T17 α) (g : Int → Int → Int → (List (Int × Int)) → Int → Int → (Int → Int → Int → (List (Int × Int)) → Int → Int → Option α) → (Int → Option α) → Option α) : T54 α := fun k out x x1 p_1 a2 a3 b0 r0 =>
 bif decide (x1 < x) then
  bif (decide (0 ≤ x1) && decide (x1 < (p_1.length : Int))) then
   (p_1[x1.toNat]?).bind fun e_ =>
   F0 k p_1 x1 fun v v1 =>
   F1 k e_.1 e_.2 v v1 a2 a3 fun v2 =>
   F2 k v2 0 fun v3 =>
   g (min out v3) x (w64 (x1 + 1)) p_1 a2 a3 b0 r0
  else
   none
 else
  b0 out x x1 p_1 a2 a3
def xX : T54 α
 | 0 => fun _ _ _ _ _ _ _ _ => none
 | k + 1 => OV lY Gz xq (xX k) k
def RJ (G3 : T54 α) : T38 α := fun k p_ a a1 r0 =>
 G3 k 1 (p_.length : Int) 0 p_ a a1
  (fun out1 _ _ _ _ _ =>
    r0 out1)
  r0
def PQ : T38 α := RJ xX
def QZ (F0 : T19 α) (F1 : T15 α) (F2 : T38 α) : T55 α := fun k list a a1 r0 =>
 F0 k list fun v =>
 bif (!v) then
  r0 0 1
 else
  F1 k a a1 fun v1 =>
  bif (!v1) then
   r0 0 1
  else
   F2 k list a a1 fun v2 =>
   r0 v2 0
def cZ : T55 α := QZ ay IQ PQ
def adv (F0 : T19 α) : T6 α := fun k m m1 m2 m3 r0 =>
 F0 k [(m, m1), (m2, m3)] fun v =>
 r0 v
def VV : T6 α := adv xw
def acm (F0 : T8 α) : T8 α := fun k m m1 m2 m3 r0 =>
 F0 k m m1 m2 m3 fun v =>
 r0 v
def abe : T8 α := acm FQ
def Tj (F0 : T8 α) (F1 : T51 α) : T6 α := fun k m m1 m2 m3 r0 =>
 F0 k m m1 m2 m3 fun v =>
 F1 k v fun v1 =>
 r0 (decide (v1 = 1))
def DJ : T6 α := Tj abe Aw
def aa4 : T53 α := fun _ m m1 m2 m3 a a1 r0 =>
 r0 (w64 ((w64 (m * a)) + (w64 (m1 * a1)))) (w64 ((w64 (m2 * a)) + (w64 (m3 * a1))))
def LW : T53 α := aa4
def aa0 (F0 : T15 α) : T15 α := fun k a a1 r0 =>
 F0 k a a1 fun v =>
 r0 (!v)
def Qw : T15 α := aa0 aap
def pV (F0 : T15 α) (g : Int → Int → (List (Int × Int)) → (Int → Int → (List (Int × Int)) → Option α) → (Int → Option α) → Option α) : T27 α := fun k x x1 s1 b0 r0 =>
 bif decide (x1 < x) then
  bif (decide (0 ≤ x1) && decide (x1 < (s1.length : Int))) then
   (s1[x1.toNat]?).bind fun e_ =>
   F0 k e_.1 e_.2 fun v =>
   bif v then
    r0 x1
   else
    g x (w64 (x1 + 1)) s1 b0 r0
  else
   none
 else
  b0 x x1 s1
def iy : T27 α
 | 0 => fun _ _ _ _ _ => none
 | k + 1 => pV Qw (iy k) k
def qW (G2 : T27 α) : T28 α := fun k s r0 =>
 G2 k (s.length : Int) 0 s
  (fun _ _ _ =>
    r0 (-1))
  r0
def mY : T28 α := qW iy
def oz (F0 : T28 α) : T19 α := fun k s r0 =>
 F0 k s fun v =>
 r0 (decide (0 ≤ v))
def jV : T19 α := oz mY
def Uj (F4 : T53 α) (F5 : T7 α) (g : Int → Int → Int → Int → Int → Int → Int → Int → (List (Int × Int)) → (List (Int × Int)) → (Int → Int → Int → Int → Int → Int → Int → Int → (List (Int × Int)) → (List (Int × Int)) → Option α) → (Int → Option α) → ((List (Int × Int)) → Int → Option α) → Option α) : T56 α := fun k x x1 m4 m5 m6 m7 b_2 b_3 out x2 b1 r0 r1 =>
 bif decide (x1 < x) then
  bif (decide (0 ≤ x1) && decide (x1 < (x2.length : Int))) then
   (x2[x1.toNat]?).bind fun e_ =>
   F4 k m4 m5 m6 m7 e_.1 e_.2 fun v4 v5 =>
   F5 k v4 v5 b_2 b_3 1 fun v6 v7 =>
   bif decide (((List.length out) + 1) ≤ big) then
    g x (w64 (x1 + 1)) m4 m5 m6 m7 b_2 b_3 (out ++ [(v6, v7)]) x2 b1 r0 r1
   else
    none
  else
   none
 else
  b1 x x1 m4 m5 m6 m7 b_2 b_3 out x2
noncomputable def BQ : T56 α
 | 0 => fun _ _ _ _ _ _ _ _ _ _ _ _ _ => none
 | k + 1 => Uj LW yX (BQ k) k
def ZQ (F0 : T6 α) (F1 : T19 α) (F2 : T15 α) (F3 : T6 α) (F6 : T19 α) (F7 : T20 α) (G7 : T56 α) : T57 α := fun k m m1 m2 m3 list b_ b_1 r0 r1 =>
 F0 k m m1 m2 m3 fun v =>
 bif (!v) then
  r0 1
 else
  F1 k list fun v1 =>
  bif (!v1) then
   r0 1
  else
   F2 k b_ b_1 fun v2 =>
   bif (!v2) then
    r0 1
   else
    F3 k m m1 m2 m3 fun v3 =>
    bif (!v3) then
     r0 5
    else
     G7 k (list.length : Int) 0 m m1 m2 m3 b_ b_1 [] list
      (fun _ _ _ _ _ _ _ _ out1 _ =>
        F6 k out1 fun v8 =>
        bif v8 then
         r0 3
        else
         F7 k out1
          (fun v9 =>
            r0 v9)
          (fun v10 v11 =>
            r1 v10 v11))
      r0 r1
noncomputable def fJ : T57 α := ZQ VV ay IQ DJ jV EY BQ
def xW : T58 α := fun _ r0 =>
 r0 (-1)
def qY : T58 α := xW
def wW (F0 : T58 α) : T42 α := fun k r0 =>
 F0 k fun v =>
 r0 (decide (0 ≤ v))
def pJ : T42 α := wW qY
def abB : T42 α := fun _ r0 =>
 r0 true
def YW : T42 α := abB
def adO (F0 : T13 α) (F1 : T42 α) (F2 : T42 α) : T42 α := fun k r0 =>
 F0 k 0 3 12 fun v =>
 bif (!v) then
  r0 false
 else
  F1 k fun v1 =>
  bif v1 then
   r0 false
  else
   F2 k fun v2 =>
   r0 v2
def acj : T42 α := adO Sj pJ YW
def YZ (F0 : T17 α) : T59 α := fun k a a1 r0 =>
 F0 k a a1 fun v =>
 bif decide (v = 0) then
  none
 else
 bif decide (v = 0) then
  none
 else
  r0 (w64 (Int.tdiv a v)) (w64 (Int.tdiv a1 v))
def Fz : T59 α := YZ GX
def afL : T17 α := fun _ a b_ r0 =>
 bif decide (b_ = 0) then
  none
 else
 bif decide (b_ = 0) then
  none
 else
 bif (!decide ((Int.tmod a b_) = 0)) then
  bif (!(decide (a < 0) == decide (b_ < 0))) then
   r0 (w64 ((w64 (Int.tdiv a b_)) - 1))
  else
   r0 (w64 (Int.tdiv a b_))
 else
  r0 (w64 (Int.tdiv a b_))
def XW : T17 α := afL
def aij (F0 : T17 α) : T17 α := fun k a b_ r0 =>
 F0 k a b_ fun v =>
 r0 (w64 (a - (w64 (b_ * v))))
def abq : T17 α := aij XW
def aa6 (g : Int → Int → Int → Int → Int → (Int → Int → Int → Int → Int → Option α) → (Int → Option α) → Option α) : T60 α := fun _ m1 r_ s x y b0 r0 =>
 bif (!decide (s = 0)) then
  bif decide (s = 0) then
   none
  else
   g m1 s (w64 (r_ - (w64 ((w64 (Int.tdiv r_ s)) * s)))) y (w64 (x - (w64 ((w64 (Int.tdiv r_ s)) * y)))) b0 r0
 else
  b0 m1 r_ s x y
def JJ : T60 α
 | 0 => fun _ _ _ _ _ _ _ => none
 | k + 1 => aa6 (JJ k) k
def afc (F0 : T17 α) (G2 : T60 α) : T17 α := fun k a m r0 =>
 F0 k a m fun v =>
 G2 k m v m 1 0
  (fun m2 _ _ x1 _ =>
    F0 k x1 m2 fun v1 =>
    r0 v1)
  r0
def aev : T17 α := afc abq JJ
def Yk (F0 : T51 α) (F1 : T17 α) (F2 : T17 α) : T59 α := fun k a a1 r0 =>
 bif decide (a = 0) then
  r0 (w64 (0 - a1)) 0
 else
  F0 k a fun v =>
  F1 k a1 v fun v1 =>
  F0 k a fun v2 =>
  F2 k (w64 (0 - v1)) v2 fun v3 =>
  bif decide (a = 0) then
   none
  else
   r0 v3 (w64 (Int.tdiv (w64 (1 + (w64 (a1 * v3)))) a))
def yY : T59 α := Yk Aw aev abq
def VZ (F0 : T30 α) (F1 : T8 α) : T61 α := fun k a a1 x x1 x2 x3 x4 r0 =>
 bif (true && decide (0 < (x.length : Int))) then
  (x[0]?).bind fun e_ =>
  bif (true && decide (0 < (x.length : Int))) then
   (x[0]?).bind fun e_1 =>
   F0 k a a1 e_.1 e_.2 fun v v1 =>
   F1 k v v1 x1 x2 fun v2 =>
   F0 k a a1 e_1.1 e_1.2 fun v3 v4 =>
   F1 k x3 x4 v3 v4 fun v5 =>
   r0 v2 v5
  else
   none
 else
  none
def uX : T61 α := VZ oJ FQ
def agS : T51 α := fun _ n_ r0 =>
 bif decide (n_ < 0) then
  r0 (-1)
 else
  r0 1
def ac6 : T51 α := agS
def abV (F3 : T61 α) (g : Int → Int → Int → Int → Int → Int → Int → Int → (List (Int × Int)) → (List (Int × Int)) → (Int → Int → Int → Int → Int → Int → Int → Int → (List (Int × Int)) → (List (Int × Int)) → Option α) → ((List (Int × Int)) → Option α) → Option α) : T62 α := fun k way by_ x x1 b_ b_1 b_2 b_3 out x2 b0 r0 =>
 bif decide (x1 < x) then
  bif (decide (0 ≤ x1) && decide (x1 < (x2.length : Int))) then
   (x2[x1.toNat]?).bind fun e_4 =>
   F3 k e_4.1 e_4.2 x2 b_ b_1 b_2 b_3 fun v13 v14 =>
   bif decide (((List.length out) + 1) ≤ big) then
    g way by_ x (w64 (x1 + 1)) b_ b_1 b_2 b_3 (out ++ [((w64 (v13 + (w64 (by_ * v14)))), (w64 (way * v14)))]) x2 b0 r0
   else
    none
  else
   none
 else
  b0 way by_ x x1 b_ b_1 b_2 b_3 out x2
def Iq : T62 α
 | 0 => fun _ _ _ _ _ _ _ _ _ _ _ _ => none
 | k + 1 => abV uX (Iq k) k
def agb (F0 : T30 α) (F1 : T59 α) (F2 : T59 α) (F3 : T61 α) (F4 : T51 α) (F5 : T51 α) (F6 : T17 α) (G9 : T62 α) : T12 α := fun k list r0 =>
 bif (true && decide (1 < (list.length : Int))) then
  (list[1]?).bind fun e_ =>
  bif (true && decide (0 < (list.length : Int))) then
   (list[0]?).bind fun e_1 =>
   F0 k e_.1 e_.2 e_1.1 e_1.2 fun v v1 =>
   F1 k v v1 fun v2 v3 =>
   F2 k v2 v3 fun v4 v5 =>
   bif (true && decide (1 < (list.length : Int))) then
    (list[1]?).bind fun e_2 =>
    F3 k e_2.1 e_2.2 list v4 v5 v2 v3 fun v6 _ =>
    bif (true && decide (2 < (list.length : Int))) then
     (list[2]?).bind fun e_3 =>
     F3 k e_3.1 e_3.2 list v4 v5 v2 v3 fun v8 v9 =>
     F4 k v9 fun v10 =>
     F5 k v9 fun v11 =>
     F6 k (w64 (v8 - v6)) v11 fun v12 =>
     G9 k v10 (w64 ((w64 (0 - v10)) * v12)) (list.length : Int) 0 v4 v5 v2 v3 [] list
      (fun _ _ _ _ _ _ _ _ out1 _ =>
        r0 out1)
      r0
    else
     none
   else
    none
  else
   none
 else
  none
def Kw : T12 α := agb oJ Fz yY uX ac6 Aw XW Iq
def iV (F0 : T8 α) (g : Int → Int → (List (Int × Int)) → (List (Int × Int)) → (Int → Int → (List (Int × Int)) → (List (Int × Int)) → Option α) → (Int → Option α) → Option α) : T63 α := fun k x x1 s1_1 s2_1 b0 r0 =>
 bif decide (x1 < x) then
  bif (decide (0 ≤ x1) && decide (x1 < (s1_1.length : Int))) then
   (s1_1[x1.toNat]?).bind fun e_ =>
   bif decide ((s2_1.length : Int) ≤ x1) then
    r0 1
   else
   bif (decide (0 ≤ x1) && decide (x1 < (s2_1.length : Int))) then
    (s2_1[x1.toNat]?).bind fun e_1 =>
    F0 k e_.1 e_.2 e_1.1 e_1.2 fun v =>
    bif (!decide (v = 0)) then
     r0 v
    else
     g x (w64 (x1 + 1)) s1_1 s2_1 b0 r0
   else
    none
  else
   none
 else
  b0 x x1 s1_1 s2_1
def dX : T63 α
 | 0 => fun _ _ _ _ _ _ => none
 | k + 1 => iV oZ (dX k) k
def lZ (G2 : T63 α) : T64 α := fun k s1_ s2_ r0 =>
 G2 k (s1_.length : Int) 0 s1_ s2_
  (fun _ _ s1_2 s2_2 =>
    bif decide ((s1_2.length : Int) < (s2_2.length : Int)) then
     r0 (-1)
    else
     r0 0)
  r0
def aX : T64 α := lZ dX
def Dj : T12 α := fun _ s r0 =>
 bif Nat.beq (List.length s) 0 then
  none
 else
 bif decide ((0 + (List.length s)) ≤ big) then
  r0 ([] ++ s)
 else
  none
def lV : T12 α := Dj
def pK (g : Int → Int → (List (Int × Int)) → (Int → Int → (List (Int × Int)) → Option α) → ((List (Int × Int)) → Option α) → Option α) : T41 α := fun _ i j s1 b0 r0 =>
 bif decide (i < j) then
  bif (decide (0 ≤ j) && decide (j < (s1.length : Int))) then
   (s1[j.toNat]?).bind fun e_ =>
   bif (decide (0 ≤ i) && decide (i < (s1.length : Int))) then
    (s1[i.toNat]?).bind fun e_1 =>
    bif (decide (0 ≤ i) && decide (i < (s1.length : Int))) then
     (s1[i.toNat]?).bind fun _ =>
     bif (decide (0 ≤ j) && decide (j < (((List.length (List.set s1 i.toNat (e_.1, e_.2))) : Nat) : Int))) then
      ((List.set s1 i.toNat (e_.1, e_.2))[j.toNat]?).bind fun _ =>
      g (w64 (i + 1)) (w64 (j - 1)) (List.set (List.set s1 i.toNat (e_.1, e_.2)) j.toNat (e_1.1, e_1.2)) b0 r0
     else
      none
    else
     none
   else
    none
  else
   none
 else
  b0 i j s1
def jK : T41 α
 | 0 => fun _ _ _ _ _ => none
 | k + 1 => pK (jK k) k
def BK (G1 : T41 α) : T12 α := fun k s r0 =>
 G1 k 0 (w64 ((s.length : Int) - 1)) s
  (fun _ _ s2 =>
    r0 s2)
  r0
def kz : T12 α := BK jK
def yZ : T58 α := fun _ r0 =>
 r0 (-1)
def rX : T58 α := yZ
def xY (F0 : T58 α) : T42 α := fun k r0 =>
 F0 k fun v =>
 r0 (decide (0 ≤ v))
def qV : T42 α := xY rX
def agr (F0 : T42 α) : T42 α := fun k r0 =>
 F0 k fun v =>
 r0 (!v)
def Ny : T42 α := agr qV
def VJ (F0 : T40 α) (F1 : T12 α) (F2 : T64 α) (g : Int → Int → (List (Int × Int)) → (List (Int × Int)) → (Int → Int → (List (Int × Int)) → (List (Int × Int)) → Option α) → (Int → Option α) → ((List (Int × Int)) → Int → Option α) → Option α) : T65 α := fun k x x1 p_1 best b2 r0 r1 =>
 bif decide (x1 < x) then
  bif (decide (0 ≤ x1) && decide (x1 ≤ (p_1.length : Int))) then
   bif (decide (0 ≤ x1) && decide (x1 ≤ (p_1.length : Int))) then
    F0 k (List.take ((List.length p_1) - x1.toNat) (List.drop x1.toNat p_1)) (List.take (x1.toNat - 0) (List.drop 0 p_1)) fun v2 =>
    F1 k v2 fun v3 =>
    bif Nat.beq (List.length best) 0 then
     none
    else
     F2 k v3 best fun v4 =>
     bif decide (v4 < 0) then
      g x (w64 (x1 + 1)) p_1 v3 b2 r0 r1
     else
      g x (w64 (x1 + 1)) p_1 best b2 r0 r1
   else
    none
  else
   none
 else
  b2 x x1 p_1 best
def tq : T65 α
 | 0 => fun _ _ _ _ _ _ _ => none
 | k + 1 => VJ iQ Kw aX (tq k) k
def Nk (F0 : T40 α) (F1 : T12 α) (F2 : T64 α) (g : Int → Int → (List (Int × Int)) → (List (Int × Int)) → (Int → Int → (List (Int × Int)) → (List (Int × Int)) → Option α) → (Int → Option α) → ((List (Int × Int)) → Int → Option α) → Option α) : T65 α := fun k x4 x5 p_3 best2 b2 r0 r1 =>
 bif decide (x5 < x4) then
  bif (decide (0 ≤ x5) && decide (x5 ≤ (p_3.length : Int))) then
   bif (decide (0 ≤ x5) && decide (x5 ≤ (p_3.length : Int))) then
    F0 k (List.take ((List.length p_3) - x5.toNat) (List.drop x5.toNat p_3)) (List.take (x5.toNat - 0) (List.drop 0 p_3)) fun v10 =>
    F1 k v10 fun v11 =>
    bif Nat.beq (List.length best2) 0 then
     none
    else
     F2 k v11 best2 fun v12 =>
     bif decide (v12 < 0) then
      g x4 (w64 (x5 + 1)) p_3 v11 b2 r0 r1
     else
      g x4 (w64 (x5 + 1)) p_3 best2 b2 r0 r1
   else
    none
  else
   none
 else
  b2 x4 x5 p_3 best2
def oW : T65 α
 | 0 => fun _ _ _ _ _ _ _ => none
 | k + 1 => Nk iQ Kw aX (oW k) k
def aab (F0 : T40 α) (F1 : T12 α) (F2 : T64 α) (F3 : T12 α) (F4 : T12 α) (F5 : T19 α) (F6 : T42 α) (G5 : T65 α) (G100005 : T65 α) : T20 α := fun k p_ r0 r1 =>
 bif decide (0 < (p_.length : Int)) then
  bif (true && decide (0 ≤ (p_.length : Int))) then
   bif (true && decide (0 ≤ (p_.length : Int))) then
    F0 k (List.take ((List.length p_) - 0) (List.drop 0 p_)) (List.take 0 (List.drop 0 p_)) fun v =>
    F1 k v fun v1 =>
    G5 k (p_.length : Int) 1 p_ v1
     (fun _ _ p_2 best1 =>
       F3 k p_2 fun v5 =>
       F4 k v5 fun v6 =>
       bif decide (0 < (v6.length : Int)) then
        bif (true && decide (0 ≤ (v6.length : Int))) then
         bif (true && decide (0 ≤ (v6.length : Int))) then
          F0 k (List.take ((List.length v6) - 0) (List.drop 0 v6)) (List.take 0 (List.drop 0 v6)) fun v7 =>
          F1 k v7 fun v8 =>
          bif Nat.beq (List.length best1) 0 then
           none
          else
           F2 k v8 best1 fun v9 =>
           bif decide (v9 < 0) then
            G100005 k (v6.length : Int) 1 v6 v8
             (fun _ _ p_4 best3 =>
               F3 k p_4 fun v13 =>
               F4 k v13 fun _ =>
               F5 k best3 fun v15 =>
               bif (!v15) then
                r0 3
               else
                r1 best3 0)
             r0 r1
           else
            G100005 k (v6.length : Int) 1 v6 best1
             (fun _ _ p_5 best4 =>
               F3 k p_5 fun v16 =>
               F4 k v16 fun _ =>
               F5 k best4 fun v18 =>
               bif (!v18) then
                r0 3
               else
                r1 best4 0)
             r0 r1
         else
          none
        else
         none
       else
        F3 k v6 fun v19 =>
        F4 k v19 fun _ =>
        F5 k best1 fun v21 =>
        bif (!v21) then
         r0 3
        else
         r1 best1 0)
     r0 r1
   else
    none
  else
   none
 else
  F3 k p_ fun v22 =>
  F4 k v22 fun v23 =>
  bif decide (0 < (v23.length : Int)) then
   bif (true && decide (0 ≤ (v23.length : Int))) then
    bif (true && decide (0 ≤ (v23.length : Int))) then
     F0 k (List.take ((List.length v23) - 0) (List.drop 0 v23)) (List.take 0 (List.drop 0 v23)) fun v24 =>
     F1 k v24 fun v25 =>
     G100005 k (v23.length : Int) 1 v23 v25
      (fun _ _ p_6 best5 =>
        F3 k p_6 fun v26 =>
        F4 k v26 fun _ =>
        F5 k best5 fun v28 =>
        bif (!v28) then
         r0 3
        else
         r1 best5 0)
      r0 r1
    else
     none
   else
    none
  else
   F3 k v23 fun v29 =>
   F4 k v29 fun _ =>
   F6 k fun v31 =>
   bif (!v31) then
    r0 3
   else
    r0 0
def ww : T20 α := aab iQ Kw aX lV kz xw Ny tq oW
def Jk : T44 α := fun _ r0 =>
 r0
def CY : T44 α := Jk
def Iz : T44 α := fun _ r0 =>
 r0
def Aq : T44 α := Iz
def abL (F0 : T44 α) (F1 : T44 α) (F2 : T42 α) : T58 α := fun k r0 =>
 F0 k <|
 F1 k <|
 F0 k <|
 F1 k <|
 F2 k fun v =>
 bif (!v) then
  r0 3
 else
  r0 0
def Xx : T58 α := abL CY Aq Ny
def JQ : T42 α := fun _ r0 =>
 r0 true
def qx : T42 α := JQ
def KQ : T32 α := fun _ x x1 s1_1 b0 _ =>
 bif decide (x1 < x) then
  bif (decide (0 ≤ x1) && decide (x1 < (s1_1.length : Int))) then
   (s1_1[x1.toNat]?).bind fun _ =>
   none
  else
   none
 else
  b0 x x1 s1_1
def vw : T32 α
 | 0 => fun _ _ _ _ _ => none
 | k + 1 => KQ k
def MQ (G4 : T32 α) : T19 α := fun k s1_ r0 =>
 bif (!decide ((s1_.length : Int) = 0)) then
  r0 false
 else
  G4 k (s1_.length : Int) 0 s1_
   (fun _ _ _ =>
     r0 true)
   r0
def tY : T19 α := MQ vw
def aa5 (F0 : T19 α) (F1 : T42 α) (F2 : T20 α) (F3 : T58 α) (F4 : T42 α) (F5 : T19 α) : T66 α := fun k a r0 =>
 F0 k a fun v =>
 bif (!v) then
  r0 false 1
 else
  F1 k fun v1 =>
  bif (!v1) then
   r0 false 1
  else
   F2 k a
    (fun v2 =>
      F3 k fun v3 =>
      bif (!decide (v2 = 0)) then
       r0 false 3
      else
      bif (!decide (v3 = 0)) then
       r0 false 3
      else
       F4 k fun v4 =>
       r0 v4 0)
    (fun v5 v6 =>
      F3 k fun v7 =>
      bif (!decide (v6 = 0)) then
       r0 false 3
      else
      bif (!decide (v7 = 0)) then
       r0 false 3
      else
       F5 k v5 fun v8 =>
       r0 v8 0)
def bZ : T66 α := aa5 ay acj ww Xx qx tY
def abo (F0 : T2 α) (F1 : T24 α) : T26 α := fun k code r0 =>
 F0 k code fun v v1 =>
 F1 k code v v1 fun v2 _ _ =>
 r0 v2
def bQ : T26 α := abo sV vX
def aaE (F0 : T19 α) (F1 : T20 α) : T20 α := fun k list r0 r1 =>
 F0 k list fun v =>
 bif (!v) then
  r0 1
 else
  F1 k list
   (fun v1 =>
     r0 v1)
   (fun v2 v3 =>
     r1 v2 v3)
def dK : T20 α := aaE ay ww
def abf (g : Int → Int → (Int → Int → Option α) → (Int → Option α) → Option α) : T52 α := fun _ a1 b_1 b0 r0 =>
 bif (!decide (b_1 = 0)) then
  bif decide (b_1 = 0) then
   none
  else
   g b_1 (Int.tmod a1 b_1) b0 r0
 else
  b0 a1 b_1
def JK : T52 α
 | 0 => fun _ _ _ _ => none
 | k + 1 => abf (JK k) k
def ae3 (G1 : T52 α) : T17 α := fun k a b_ r0 =>
 G1 k a b_
  (fun a2 _ =>
    r0 (max a2 (w64 (0 - a2))))
  r0
def YY : T17 α := ae3 JK
def aeq (F0 : T17 α) : T59 α := fun k a a1 r0 =>
 F0 k a a1 fun v =>
 bif decide (v = 0) then
  none
 else
 bif decide (v = 0) then
  none
 else
  r0 (w64 (Int.tdiv a v)) (w64 (Int.tdiv a1 v))
def ZV : T59 α := aeq YY
def aeo : T17 α := fun _ n_ x r0 =>
 bif decide (n_ = 0) then
  none
 else
 bif decide (n_ = 0) then
  none
 else
  r0 (Int.tmod (w64 ((Int.tmod x n_) + n_)) n_)
def Zk : T17 α := aeo
def aaq (g : Int → Int → Int → Int → Int → Int → Int → Int → Int → (Int → Int → Int → Int → Int → Int → Int → Int → Int → Option α) → (Int → Int → Option α) → Option α) : T67 α := fun _ n_ x before rest next a2 a3 x1 x2 b0 r0 =>
 bif (!decide (next = 0)) then
  bif decide (next = 0) then
   none
  else
   g n_ before (w64 (x - (w64 ((w64 (Int.tdiv rest next)) * before)))) next (w64 (rest - (w64 ((w64 (Int.tdiv rest next)) * next)))) a2 a3 x1 x2 b0 r0
 else
  b0 n_ x before rest next a2 a3 x1 x2
def Gw : T67 α
 | 0 => fun _ _ _ _ _ _ _ _ _ _ _ => none
 | k + 1 => aaq (Gw k) k
def ab7 (F0 : T17 α) (G5 : T67 α) : T59 α := fun k a a1 r0 =>
 bif decide (a = 0) then
  r0 (w64 (0 - a1)) 0
 else
  F0 k (max a (w64 (0 - a))) a1 fun v =>
  G5 k (max a (w64 (0 - a))) 1 0 v (max a (w64 (0 - a))) a a1 0 0
   (fun n_1 x3 _ _ _ a4 a5 _ _ =>
     F0 k n_1 (w64 (0 - x3)) fun v1 =>
     bif decide (a4 = 0) then
      none
     else
      r0 v1 (w64 (Int.tdiv (w64 (1 + (w64 (a5 * v1)))) a4)))
   r0
def IZ : T59 α := ab7 Zk Gw
def WJ : T53 α := fun _ m m1 m2 m3 a a1 r0 =>
 r0 (w64 ((w64 (m * a)) + (w64 (m1 * a1)))) (w64 ((w64 (m2 * a)) + (w64 (m3 * a1))))
def zk : T53 α := WJ
def adI : T17 α := fun _ p_ q_ r0 =>
 bif decide (q_ = 0) then
  none
 else
 bif decide (q_ = 0) then
  none
 else
 bif (!decide ((Int.tmod p_ q_) = 0)) then
  bif (!(decide (p_ < 0) == decide (q_ < 0))) then
   r0 (w64 ((w64 (Int.tdiv p_ q_)) - 1))
  else
   r0 (w64 (Int.tdiv p_ q_))
 else
  r0 (w64 (Int.tdiv p_ q_))
def VY : T17 α := adI
def aba : T68 α := fun _ m m1 m2 m3 n_ n_1 n_2 n_3 r0 =>
 r0 (w64 ((w64 (m * n_)) + (w64 (m1 * n_2)))) (w64 ((w64 (m * n_1)) + (w64 (m1 * n_3)))) (w64 ((w64 (m2 * n_)) + (w64 (m3 * n_2)))) (w64 ((w64 (m2 * n_1)) + (w64 (m3 * n_3))))
def IX : T68 α := aba
def XY (F0 : T7 α) (F3 : T53 α) (g : Int → (List (Int × Int)) → Int → Int → Int → Int → Int → Int → (List (Int × Int)) → (Int → (List (Int × Int)) → Int → Int → Int → Int → Int → Int → (List (Int × Int)) → Option α) → ((List (Int × Int)) → Option α) → Option α) : T69 α := fun k i list1 a a1 m m1 m2 m3 out b0 r0 =>
 bif decide (i < (list1.length : Int)) then
  bif (decide (0 ≤ i) && decide (i < (list1.length : Int))) then
   (list1[i.toNat]?).bind fun e_3 =>
   F0 k e_3.1 e_3.2 a a1 (-1) fun v15 v16 =>
   F3 k m m1 m2 m3 v15 v16 fun v17 v18 =>
   bif decide (((List.length out) + 1) ≤ big) then
    g (w64 (i + 1)) list1 a a1 m m1 m2 m3 (out ++ [(v17, v18)]) b0 r0
   else
    none
  else
   none
 else
  b0 i list1 a a1 m m1 m2 m3 out
def zx : T69 α
 | 0 => fun _ _ _ _ _ _ _ _ _ _ _ => none
 | k + 1 => XY jy zk (zx k) k
def adJ (F0 : T7 α) (F1 : T59 α) (F2 : T59 α) (F3 : T53 α) (F4 : T17 α) (F5 : T68 α) (G14 : T69 α) : T12 α := fun k list r0 =>
 bif (true && decide (0 < (list.length : Int))) then
  (list[0]?).bind fun e_ =>
  bif (true && decide (1 < (list.length : Int))) then
   (list[1]?).bind fun e_1 =>
   bif (true && decide (2 < (list.length : Int))) then
    (list[2]?).bind fun e_2 =>
    F0 k e_1.1 e_1.2 e_.1 e_.2 (-1) fun v v1 =>
    F1 k v v1 fun v2 v3 =>
    F2 k v2 v3 fun v4 v5 =>
    F0 k e_2.1 e_2.2 e_1.1 e_1.2 (-1) fun v6 v7 =>
    F3 k v5 (w64 (0 - v4)) (w64 (0 - v3)) v2 v6 v7 fun v8 v9 =>
    bif decide (v9 < 0) then
     F4 k v8 (w64 (0 - v9)) fun v10 =>
     F5 k 1 (w64 (0 - v10)) 0 1 v5 (w64 (0 - v4)) (w64 (0 - (w64 (0 - v3)))) (w64 (0 - v2)) fun v11 v12 v13 v14 =>
     G14 k 0 list e_.1 e_.2 v11 v12 v13 v14 []
      (fun _ _ _ _ _ _ _ _ out1 =>
        r0 out1)
      r0
    else
     F4 k v8 v9 fun v19 =>
     F5 k 1 (w64 (0 - v19)) 0 1 v5 (w64 (0 - v4)) (w64 (0 - v3)) v2 fun v20 v21 v22 v23 =>
     G14 k 0 list e_.1 e_.2 v20 v21 v22 v23 []
      (fun _ _ _ _ _ _ _ _ out2 =>
        r0 out2)
      r0
   else
    none
  else
   none
 else
  none
def IV : T12 α := adJ jy ZV IZ zk VY IX zx
def aay (F0 : T6 α) (g : Int → (List (Int × Int)) → (List (Int × Int)) → (Int → (List (Int × Int)) → (List (Int × Int)) → Option α) → (Bool → Option α) → Option α) : T70 α := fun k i a1 b_1 b0 r0 =>
 bif decide (i < (a1.length : Int)) then
  bif (decide (0 ≤ i) && decide (i < (a1.length : Int))) then
   (a1[i.toNat]?).bind fun e_ =>
   bif (decide (0 ≤ i) && decide (i < (b_1.length : Int))) then
    (b_1[i.toNat]?).bind fun e_1 =>
    bif (!(decide (e_.1 = e_1.1) && decide (e_.2 = e_1.2))) then
     bif (decide (0 ≤ i) && decide (i < (a1.length : Int))) then
      (a1[i.toNat]?).bind fun e_2 =>
      bif (decide (0 ≤ i) && decide (i < (b_1.length : Int))) then
       (b_1[i.toNat]?).bind fun e_3 =>
       F0 k e_2.1 e_2.2 e_3.1 e_3.2 fun v =>
       r0 v
      else
       none
     else
      none
    else
     g (w64 (i + 1)) a1 b_1 b0 r0
   else
    none
  else
   none
 else
  b0 i a1 b_1
def Gj : T70 α
 | 0 => fun _ _ _ _ _ => none
 | k + 1 => aay uj (Gj k) k
def adY (G2 : T70 α) : T71 α := fun k a b_ r0 =>
 G2 k 0 a b_
  (fun _ _ _ =>
    r0 false)
  r0
def PW : T71 α := adY Gj
def aar (F0 : T15 α) (g : Int → (List (Int × Int)) → (Int → (List (Int × Int)) → Option α) → (Int → Option α) → Option α) : T72 α := fun k i list1 b0 r0 =>
 bif decide (i < (list1.length : Int)) then
  bif (decide (0 ≤ i) && decide (i < (list1.length : Int))) then
   (list1[i.toNat]?).bind fun e_ =>
   F0 k e_.1 e_.2 fun v =>
   bif (!v) then
    r0 1
   else
    g (w64 (i + 1)) list1 b0 r0
  else
   none
 else
  b0 i list1
def Gy : T72 α
 | 0 => fun _ _ _ _ => none
 | k + 1 => aar Dk (Gy k) k
def adT (G2 : T72 α) : T28 α := fun k list r0 =>
 G2 k 0 list
  (fun _ _ =>
    r0 0)
  r0
def CV : T28 α := adT Gy
def UY (g : Int → Int → Int → Int → (List (Int × Int)) → (List (Int × Int)) → (List (Int × Int)) → (Int → Int → Int → Int → (List (Int × Int)) → (List (Int × Int)) → (List (Int × Int)) → Option α) → ((List (Int × Int)) → Bool → Option α) → Option α) : T73 α := fun _ n_2 way2 i1 k_ list3 best2 own b4 r0 =>
 bif decide (k_ < n_2) then
  bif decide (way2 = 0) then
   bif decide (n_2 = 0) then
    none
   else
   bif (decide (0 ≤ (Int.tmod (w64 (i1 + k_)) n_2)) && decide ((Int.tmod (w64 (i1 + k_)) n_2) < (list3.length : Int))) then
    (list3[(Int.tmod (w64 (i1 + k_)) n_2).toNat]?).bind fun e_ =>
    bif decide (((List.length own) + 1) ≤ big) then
     g n_2 way2 i1 (w64 (k_ + 1)) list3 best2 (own ++ [(e_.1, e_.2)]) b4 r0
    else
     none
   else
    none
  else
  bif decide (n_2 = 0) then
   none
  else
  bif (decide (0 ≤ (Int.tmod (w64 ((w64 (i1 - k_)) + n_2)) n_2)) && decide ((Int.tmod (w64 ((w64 (i1 - k_)) + n_2)) n_2) < (list3.length : Int))) then
   (list3[(Int.tmod (w64 ((w64 (i1 - k_)) + n_2)) n_2).toNat]?).bind fun e_1 =>
   bif decide (((List.length own) + 1) ≤ big) then
    g n_2 way2 i1 (w64 (k_ + 1)) list3 best2 (own ++ [(e_1.1, e_1.2)]) b4 r0
   else
    none
  else
   none
 else
  b4 n_2 way2 i1 k_ list3 best2 own
def wQ : T73 α
 | 0 => fun _ _ _ _ _ _ _ _ _ => none
 | k + 1 => UY (wQ k) k
def Oz (F0 : T12 α) (F1 : T71 α) (G10 : T73 α) (g : Int → Int → Int → (List (Int × Int)) → (List (Int × Int)) → (Int → Int → Int → (List (Int × Int)) → (List (Int × Int)) → Option α) → ((List (Int × Int)) → Bool → Option α) → Option α) : T74 α := fun k n_1 way1 i list2 best1 b2 r0 =>
 bif decide (i < n_1) then
  G10 k n_1 way1 i 0 list2 best1 []
   (fun n_3 way3 i2 _ list4 best3 own1 =>
     F0 k own1 fun v =>
     bif decide ((best3.length : Int) = 0) then
      g n_3 way3 (w64 (i2 + 1)) list4 v b2 r0
     else
      F1 k v best3 fun v1 =>
      bif v1 then
       g n_3 way3 (w64 (i2 + 1)) list4 v b2 r0
      else
       g n_3 way3 (w64 (i2 + 1)) list4 best3 b2 r0)
   r0
 else
  b2 n_1 way1 i list2 best1
def tX : T74 α
 | 0 => fun _ _ _ _ _ _ _ => none
 | k + 1 => Oz IV PW wQ (tX k) k
def PX (G6 : T74 α) (g : Int → Int → (List (Int × Int)) → (List (Int × Int)) → (Int → Int → (List (Int × Int)) → (List (Int × Int)) → Option α) → ((List (Int × Int)) → Bool → Option α) → Option α) : T75 α := fun k n_ way list1 best b0 r0 =>
 bif decide (way < 2) then
  G6 k n_ way 0 list1 best
   (fun n_4 way4 _ list5 best4 =>
     g n_4 (w64 (way4 + 1)) list5 best4 b0 r0)
   r0
 else
  b0 n_ way list1 best
def xK : T75 α
 | 0 => fun _ _ _ _ _ _ => none
 | k + 1 => PX tX (xK k) k
def acY (F2 : T28 α) (G3 : T75 α) : T76 α := fun k list r0 =>
 G3 k (list.length : Int) 0 list []
  (fun _ _ _ best5 =>
    F2 k best5 fun v2 =>
    r0 best5 (decide (v2 = 0)))
  r0
def AQ : T76 α := acY CV xK
def aam (F0 : T28 α) (F1 : T76 α) : T20 α := fun k list r0 r1 =>
 F0 k list fun v =>
 bif (!decide (v = 0)) then
  r0 v
 else
  F1 k list fun v1 v2 =>
  bif (!v2) then
   r0 3
  else
   r1 v1 0
def eQ : T20 α := aam tZ AQ
def CJ (F0 : T3 α) (F1 : T68 α) (g : Int → Int → Int → Int → Int → Int → Int → Int → Int → Int → Int → List Int → (Int → Int → Int → Int → Int → Int → Int → Int → Int → Int → Int → List Int → Option α) → (Int → Int → Int → Int → Int → Int → Option α) → Option α) : T77 α := fun k n_ s3 s4 x x1 x2 x3 out out1 out2 out3 b_ b0 r0 =>
 bif decide (0 < n_) then
  F0 k b_ s3 s4 7 fun v3 v4 v5 =>
  F0 k b_ v4 v5 3 fun v6 v7 v8 =>
  bif decide (v6 = 0) then
   F1 k out out1 out2 out3 1 (w64 (v3 - 3)) 0 1 fun v9 v10 v11 v12 =>
   g (w64 (n_ - 1)) v7 v8 x x1 x2 x3 v9 v10 v11 v12 b_ b0 r0
  else
  bif decide (v6 = 1) then
   F1 k out out1 out2 out3 1 0 (w64 (v3 - 3)) 1 fun v13 v14 v15 v16 =>
   g (w64 (n_ - 1)) v7 v8 x x1 x2 x3 v13 v14 v15 v16 b_ b0 r0
  else
   F1 k out out1 out2 out3 0 1 1 0 fun v17 v18 v19 v20 =>
   g (w64 (n_ - 1)) v7 v8 x x1 x2 x3 v17 v18 v19 v20 b_ b0 r0
 else
  b0 n_ s3 s4 x x1 x2 x3 out out1 out2 out3 b_
def sQ : T77 α
 | 0 => fun _ _ _ _ _ _ _ _ _ _ _ _ _ _ => none
 | k + 1 => CJ kK IX (sQ k) k
def abE (F0 : T3 α) (G3 : T77 α) : T78 α := fun k s s1 s2 r0 =>
 F0 k s s1 s2 5 fun v v1 v2 =>
 G3 k v v1 v2 0 0 0 0 1 0 0 1 s
  (fun _ s5 s6 _ _ _ _ out4 out5 out6 out7 _ =>
    r0 out4 out5 out6 out7 s5 s6)
  r0
def TY : T78 α := abE kK sQ
def acS (F0 : T14 α) : T6 α := fun k m m1 m2 m3 r0 =>
 F0 k m fun v =>
 bif v then
  F0 k m1 fun v1 =>
  bif v1 then
   F0 k m2 fun v2 =>
   bif v2 then
    F0 k m3 fun v3 =>
    r0 v3
   else
    r0 false
  else
   r0 false
 else
  r0 false
def SK : T6 α := acS UZ
def adK : T8 α := fun _ m m1 m2 m3 r0 =>
 r0 (w64 ((w64 (m * m3)) - (w64 (m1 * m2))))
def acv : T8 α := adK
def adW (F0 : T8 α) : T6 α := fun k m m1 m2 m3 r0 =>
 F0 k m m1 m2 m3 fun v =>
 bif decide (v = 1) then
  r0 true
 else
  r0 (decide (v = (-1)))
def Zq : T6 α := adW acv
def Uw (F4 : T53 α) (F5 : T7 α) (F6 : T13 α) (g : Int → (List (Int × Int)) → Int → Int → Int → Int → Int → Int → (List (Int × Int)) → (Int → (List (Int × Int)) → Int → Int → Int → Int → Int → Int → (List (Int × Int)) → Option α) → (Int → Option α) → ((List (Int × Int)) → Int → Option α) → Option α) : T79 α := fun k i list1 m4 m5 m6 m7 b_2 b_3 all b1 r0 r1 =>
 bif decide (i < (list1.length : Int)) then
  bif (decide (0 ≤ i) && decide (i < (list1.length : Int))) then
   (list1[i.toNat]?).bind fun e_ =>
   F4 k m4 m5 m6 m7 e_.1 e_.2 fun v4 v5 =>
   F5 k v4 v5 b_2 b_3 1 fun v6 v7 =>
   F6 k v6 (-1000) 1000 fun v8 =>
   bif (!v8) then
    r0 3
   else
    F6 k v7 (-1000) 1000 fun v9 =>
    bif (!v9) then
     r0 3
    else
    bif decide (((List.length all) + 1) ≤ big) then
     g (w64 (i + 1)) list1 m4 m5 m6 m7 b_2 b_3 (all ++ [(v6, v7)]) b1 r0 r1
    else
     none
  else
   none
 else
  b1 i list1 m4 m5 m6 m7 b_2 b_3 all
def BX : T79 α
 | 0 => fun _ _ _ _ _ _ _ _ _ _ _ _ => none
 | k + 1 => Uw zk jy FX (BX k) k
def aci (F0 : T6 α) (F1 : T19 α) (F2 : T15 α) (F3 : T6 α) (F7 : T12 α) (G7 : T79 α) : T57 α := fun k m m1 m2 m3 list b_ b_1 r0 r1 =>
 F0 k m m1 m2 m3 fun v =>
 bif (!v) then
  r0 1
 else
  F1 k list fun v1 =>
  bif (!v1) then
   r0 1
  else
   F2 k b_ b_1 fun v2 =>
   bif (!v2) then
    r0 1
   else
    F3 k m m1 m2 m3 fun v3 =>
    bif (!v3) then
     r0 5
    else
     G7 k 0 list m m1 m2 m3 b_ b_1 []
      (fun _ _ _ _ _ _ _ _ all1 =>
        F7 k all1 fun v10 =>
        r1 v10 0)
      r0 r1
def KY : T57 α := aci SK uK Dk Zq Ey BX
def QX (F0 : T2 α) (F1 : T24 α) (F2 : T19 α) (F3 : T3 α) (F4 : T78 α) (F5 : T5 α) (F6 : T57 α) : T80 α := fun k code r0 r1 =>
 F0 k code fun v v1 =>
 F1 k code v v1 fun v2 v3 v4 =>
 F2 k v2 fun v5 =>
 bif v5 then
  F3 k code v3 v4 3 fun v6 v7 v8 =>
  bif decide (0 < v6) then
   F4 k code v7 v8 fun v9 v10 v11 v12 v13 v14 =>
   F5 k code v13 v14 3 fun v15 v16 v17 v18 =>
   F6 k v9 v10 v11 v12 v2 v15 v16
    (fun v19 =>
      bif decide (v19 = 0) then
       r0 v2
      else
       F1 k code v17 v18 fun v20 _ _ =>
       r1 v2 v20)
    (fun v23 v24 =>
      bif decide (v24 = 0) then
       r1 v2 v23
      else
       F1 k code v17 v18 fun v25 _ _ =>
       r1 v2 v25)
  else
   F1 k code v7 v8 fun v28 _ _ =>
   r1 v2 v28
 else
  F1 k code v3 v4 fun v31 _ _ =>
  r1 v2 v31
def aZ : T80 α := QX sV vX uK kK TY pW KY
def agw : T42 α := fun _ r0 =>
 r0 false
def ae7 : T42 α := agw
def adP (F0 : T19 α) (F1 : T42 α) : T28 α := fun k lists r0 =>
 F0 k lists fun v =>
 bif (!v) then
  r0 1
 else
  F1 k fun v1 =>
  bif (!v1) then
   r0 1
  else
   r0 0
def Yq : T28 α := adP uK ae7
def adQ (F0 : T28 α) : T81 α := fun k r0 =>
 F0 k [] fun v =>
 r0 [] (decide (v = 0))
def YX : T81 α := adQ CV
def Zy (g : Bool → Int → (List (Int × Int)) → (List (Int × Int)) → (Bool → Int → (List (Int × Int)) → (List (Int × Int)) → Option α) → (Bool → Int → Option α) → Option α) : T82 α := fun _ same i one two b0 r0 =>
 bif decide (i < (one.length : Int)) then
  bif same then
   bif (decide (0 ≤ i) && decide (i < (one.length : Int))) then
    (one[i.toNat]?).bind fun e_ =>
    bif (decide (0 ≤ i) && decide (i < (two.length : Int))) then
     (two[i.toNat]?).bind fun e_1 =>
     g (decide (e_.1 = e_1.1) && decide (e_.2 = e_1.2)) (w64 (i + 1)) one two b0 r0
    else
     none
   else
    none
  else
   b0 same i one two
 else
  b0 same i one two
def Ak : T82 α
 | 0 => fun _ _ _ _ _ _ => none
 | k + 1 => Zy (Ak k) k
def aa8 (F0 : T28 α) (F1 : T76 α) (F2 : T81 α) (G10 : T82 α) : T66 α := fun k a r0 =>
 F0 k a fun v =>
 bif (!decide (v = 0)) then
  r0 false v
 else
  F1 k a fun v1 v2 =>
  F2 k fun v3 v4 =>
  bif (!v2) then
   r0 false 3
  else
  bif (!v4) then
   r0 false 3
  else
   G10 k (decide ((v1.length : Int) = (v3.length : Int))) 0 v1 v3
    (fun same1 _ _ _ =>
      r0 same1 0)
    r0
def bW : T66 α := aa8 Yq AQ YX Ak
def UV (F3 : T5 α) (g : Int → Int → Int → Int → (List (Int × Int)) → List Int → (Int → Int → Int → Int → (List (Int × Int)) → List Int → Option α) → ((List (Int × Int)) → Option α) → Option α) : T83 α := fun k most n_ s s1 out b_ b0 r0 =>
 bif decide (0 < n_) then
  F3 k b_ s s1 most fun v11 v12 v13 v14 =>
  bif decide (((List.length out) + 1) ≤ big) then
   g most (w64 (n_ - 1)) v13 v14 (out ++ [(v11, v12)]) b_ b0 r0
  else
   none
 else
  b0 most n_ s s1 out b_
def BZ : T83 α
 | 0 => fun _ _ _ _ _ _ _ _ => none
 | k + 1 => UV pW (BZ k) k
def ack (F0 : T2 α) (F1 : T4 α) (F2 : T3 α) (G4 : T83 α) : T26 α := fun k code r0 =>
 F0 k code fun v v1 =>
 F1 k code v v1 [1, 2, 5, 20, 1000, 1001] fun v2 v3 v4 =>
 F1 k code v3 v4 [6, 12, 20] fun v5 v6 v7 =>
 F2 k code v6 v7 v5 fun v8 v9 v10 =>
 G4 k v2 v8 v9 v10 [] code
  (fun _ _ s2 s3 out1 b_1 =>
    bif decide (0 < (out1.length : Int)) then
     F2 k b_1 s2 s3 30 fun v15 _ _ =>
     bif decide (v15 = 0) then
      bif (true && decide (0 < (out1.length : Int))) then
       (out1[0]?).bind fun _ =>
       r0 (List.set out1 0 (1000001, 0))
      else
       none
     else
      r0 out1
    else
     r0 out1)
  r0
def gV : T26 α := ack sV sW kK BZ
def acU (F0 : T28 α) : T28 α := fun k list r0 =>
 F0 k list fun v =>
 bif (!decide (v = 0)) then
  r0 v
 else
 bif decide (100 < (list.length : Int)) then
  r0 2
 else
  r0 0
def ab4 : T28 α := acU CV
def ae1 (F0 : T28 α) (F1 : T20 α) : T20 α := fun k list r0 r1 =>
 F0 k list fun v =>
 bif (!decide (v = 0)) then
  r0 v
 else
  F1 k list
   (fun v1 =>
     r0 v1)
   (fun v2 v3 =>
     r1 v2 v3)
def iY : T20 α := ae1 ab4 vW
def RY (F0 : T2 α) (F1 : T24 α) (F2 : T4 α) (F3 : T5 α) (F4 : T3 α) : T84 α := fun k code r0 =>
 F0 k code fun v v1 =>
 F1 k code v v1 fun v2 v3 v4 =>
 F2 k code v3 v4 [2, 5, 10] fun v5 v6 v7 =>
 F3 k code v6 v7 v5 fun v8 v9 v10 v11 =>
 F4 k code v10 v11 4 fun v12 v13 v14 =>
 bif decide (v12 = 0) then
  F4 k code v13 v14 (v2.length : Int) fun v15 _ _ =>
  bif (decide (0 ≤ v15) && decide (v15 < (v2.length : Int))) then
   (v2[v15.toNat]?).bind fun e_ =>
   r0 v2 e_.1 e_.2
  else
   none
 else
  r0 v2 v8 v9
def aY : T84 α := RY sV vX sW pW kK
def Yz (F0 : T7 α) (F1 : T8 α) (g : Int → Int → (List (Int × Int)) → Int → Int → (Int → Int → (List (Int × Int)) → Int → Int → Option α) → (Int → Option α) → Option α) : T37 α := fun k out i list1 a2 a3 b0 r0 =>
 bif decide (i < (list1.length : Int)) then
  bif (decide (0 ≤ i) && decide (i < (list1.length : Int))) then
   (list1[i.toNat]?).bind fun e_ =>
   bif decide ((list1.length : Int) = 0) then
    none
   else
   bif (decide (0 ≤ (Int.tmod (w64 (i + 1)) (list1.length : Int))) && decide ((Int.tmod (w64 (i + 1)) (list1.length : Int)) < (list1.length : Int))) then
    (list1[(Int.tmod (w64 (i + 1)) (list1.length : Int)).toNat]?).bind fun e_1 =>
    F0 k e_1.1 e_1.2 e_.1 e_.2 (-1) fun v v1 =>
    F0 k a2 a3 e_.1 e_.2 (-1) fun v2 v3 =>
    F1 k v v1 v2 v3 fun v4 =>
    bif decide (v4 < 0) then
     r0 (-1)
    else
    bif decide (v4 = 0) then
     g 0 (w64 (i + 1)) list1 a2 a3 b0 r0
    else
     g out (w64 (i + 1)) list1 a2 a3 b0 r0
   else
    none
  else
   none
 else
  b0 out i list1 a2 a3
def EK : T37 α
 | 0 => fun _ _ _ _ _ _ _ => none
 | k + 1 => Yz jy uQ (EK k) k
def adF (G3 : T37 α) : T38 α := fun k list a a1 r0 =>
 G3 k 1 0 list a a1
  (fun out1 _ _ _ _ =>
    r0 out1)
  r0
def acz : T38 α := adF EK
def aaf (F0 : T19 α) (F1 : T15 α) (F2 : T38 α) : T55 α := fun k list a a1 r0 =>
 F0 k list fun v =>
 bif (!v) then
  r0 0 1
 else
  F1 k a a1 fun v1 =>
  bif (!v1) then
   r0 0 1
  else
   F2 k list a a1 fun v2 =>
   r0 v2 0
def dV : T55 α := aaf uK Dk acz
def acd (F0 : T3 α) (F1 : T4 α) : T3 α := fun k s s1 s2 most r0 =>
 F0 k s s1 s2 14 fun v v1 v2 =>
 bif decide (v = 0) then
  F1 k s v1 v2 [(-1), (w64 (most + 1)), 1099511627776, (-4611686018427387904)] fun v3 v4 v5 =>
  r0 v3 v4 v5
 else
  F0 k s v1 v2 (w64 (most + 1)) fun v6 v7 v8 =>
  r0 v6 v7 v8
def ZZ : T3 α := acd kK sW
def QK (F0 : T2 α) (F1 : T24 α) (F2 : T4 α) (F3 : T3 α) : T85 α := fun k code r0 =>
 F0 k code fun v v1 =>
 F1 k code v v1 fun v2 v3 v4 =>
 F2 k code v3 v4 [3, 1000] fun v5 v6 v7 =>
 F3 k code v6 v7 v5 fun v8 _ _ =>
 r0 v2 v8
def aV : T85 α := QK sV vX sW ZZ
def aaK (F0 : T8 α) (g : Int → Int → (List (Int × Int)) → (Int → Int → (List (Int × Int)) → Option α) → (Int → Option α) → Option α) : T27 α := fun k sum i list1 b0 r0 =>
 bif decide (i < (list1.length : Int)) then
  bif (decide (0 ≤ i) && decide (i < (list1.length : Int))) then
   (list1[i.toNat]?).bind fun e_ =>
   bif decide ((list1.length : Int) = 0) then
    none
   else
   bif (decide (0 ≤ (Int.tmod (w64 (i + 1)) (list1.length : Int))) && decide ((Int.tmod (w64 (i + 1)) (list1.length : Int)) < (list1.length : Int))) then
    (list1[(Int.tmod (w64 (i + 1)) (list1.length : Int)).toNat]?).bind fun e_1 =>
    F0 k e_.1 e_.2 e_1.1 e_1.2 fun v =>
    g (w64 (sum + v)) (w64 (i + 1)) list1 b0 r0
   else
    none
  else
   none
 else
  b0 sum i list1
def Gq : T27 α
 | 0 => fun _ _ _ _ _ => none
 | k + 1 => aaK uQ (Gq k) k
def ahw (G3 : T27 α) : T28 α := fun k list r0 =>
 G3 k 0 0 list
  (fun sum1 _ _ =>
    r0 sum1)
  r0
def ZW : T28 α := ahw Gq
def acK (F0 : T17 α) : T8 α := fun k a a1 b_ b_1 r0 =>
 F0 k (w64 (b_ - a)) (w64 (b_1 - a1)) fun v =>
 r0 v
def ZK : T8 α := acK YY
def XV (F0 : T8 α) (g : Int → Int → (List (Int × Int)) → (Int → Int → (List (Int × Int)) → Option α) → (Int → Option α) → Option α) : T27 α := fun k sum i list1 b0 r0 =>
 bif decide (i < (list1.length : Int)) then
  bif (decide (0 ≤ i) && decide (i < (list1.length : Int))) then
   (list1[i.toNat]?).bind fun e_ =>
   bif decide ((list1.length : Int) = 0) then
    none
   else
   bif (decide (0 ≤ (Int.tmod (w64 (i + 1)) (list1.length : Int))) && decide ((Int.tmod (w64 (i + 1)) (list1.length : Int)) < (list1.length : Int))) then
    (list1[(Int.tmod (w64 (i + 1)) (list1.length : Int)).toNat]?).bind fun e_1 =>
    F0 k e_.1 e_.2 e_1.1 e_1.2 fun v =>
    g (w64 (sum + v)) (w64 (i + 1)) list1 b0 r0
   else
    none
  else
   none
 else
  b0 sum i list1
def DW : T27 α
 | 0 => fun _ _ _ _ _ => none
 | k + 1 => XV ZK (DW k) k
def agt (G3 : T27 α) : T28 α := fun k list r0 =>
 G3 k 0 0 list
  (fun sum1 _ _ =>
    r0 sum1)
  r0
def SY : T28 α := agt DW
def YJ (F0 : T28 α) (F1 : T13 α) (F2 : T28 α) (F3 : T28 α) : T29 α := fun k list k_ r0 =>
 F0 k list fun v =>
 bif (!decide (v = 0)) then
  r0 0 v
 else
  F1 k k_ 0 1000 fun v1 =>
  bif (!v1) then
   r0 0 2
  else
   F2 k list fun v2 =>
   F3 k list fun v3 =>
   r0 (w64 (Int.tdiv (w64 ((w64 ((w64 ((w64 (k_ * k_)) * v2)) + (w64 (k_ * v3)))) + 2)) 2)) 0
def dQ : T29 α := YJ tZ FX ZW SY
def acu (F0 : T2 α) (F1 : T24 α) : T26 α := fun k code r0 =>
 F0 k code fun v v1 =>
 F1 k code v v1 fun v2 _ _ =>
 r0 v2
def dZ : T26 α := acu sV vX
def adl (F0 : T28 α) (F1 : T28 α) : T28 α := fun k list r0 =>
 F0 k list fun v =>
 F1 k list fun v1 =>
 r0 (w64 (Int.tdiv (w64 ((w64 (v - v1)) + 2)) 2))
def acB : T28 α := adl ZW SY
def aby (F0 : T28 α) (F1 : T28 α) : T36 α := fun k list r0 =>
 F0 k list fun v =>
 bif (!decide (v = 0)) then
  r0 0 v
 else
  F1 k list fun v1 =>
  r0 v1 0
def gZ : T36 α := aby tZ acB
def aff : T19 α := fun _ b_ r0 =>
 bif (!decide (0 = (b_.length : Int))) then
  r0 false
 else
  r0 true
def gq : T19 α := aff
def adM : T86 α := fun _ i a1 b0 _ =>
 bif decide (i < (a1.length : Int)) then
  bif (decide (0 ≤ i) && decide (i < (a1.length : Int))) then
   (a1[i.toNat]?).bind fun _ =>
   none
  else
   none
 else
  b0 i a1
def Wx : T86 α
 | 0 => fun _ _ _ _ => none
 | k + 1 => adM k
def afh (G4 : T86 α) : T19 α := fun k a r0 =>
 bif (!decide ((a.length : Int) = 0)) then
  r0 false
 else
  G4 k 0 a
   (fun _ _ =>
     r0 true)
   r0
def gK : T19 α := afh Wx
def aaJ (g : Int → (List (Int × Int)) → (List (Int × Int)) → (Int → (List (Int × Int)) → (List (Int × Int)) → Option α) → (Bool → Option α) → Option α) : T70 α := fun _ i a1 b_1 b0 r0 =>
 bif decide (i < (a1.length : Int)) then
  bif (decide (0 ≤ i) && decide (i < (a1.length : Int))) then
   (a1[i.toNat]?).bind fun e_ =>
   bif (decide (0 ≤ i) && decide (i < (b_1.length : Int))) then
    (b_1[i.toNat]?).bind fun e_1 =>
    bif (!(decide (e_.1 = e_1.1) && decide (e_.2 = e_1.2))) then
     r0 false
    else
     g (w64 (i + 1)) a1 b_1 b0 r0
   else
    none
  else
   none
 else
  b0 i a1 b_1
def Gv : T70 α
 | 0 => fun _ _ _ _ _ => none
 | k + 1 => aaJ (Gv k) k
def ad6 (G4 : T70 α) : T71 α := fun k a b_ r0 =>
 bif (!decide ((a.length : Int) = (b_.length : Int))) then
  r0 false
 else
  G4 k 0 a b_
   (fun _ _ _ =>
     r0 true)
   r0
def gz : T71 α := ad6 Gv
def LK : T19 α := fun _ s2_ r0 =>
 bif (!decide (0 = (s2_.length : Int))) then
  r0 false
 else
  r0 true
def EQ : T19 α := LK
def xQ (g : Int → Int → (List (Int × Int)) → (List (Int × Int)) → (Int → Int → (List (Int × Int)) → (List (Int × Int)) → Option α) → (Bool → Option α) → Option α) : T87 α := fun _ x x1 s1_1 s2_1 b0 r0 =>
 bif decide (x1 < x) then
  bif (decide (0 ≤ x1) && decide (x1 < (s1_1.length : Int))) then
   (s1_1[x1.toNat]?).bind fun e_ =>
   bif (decide (0 ≤ x1) && decide (x1 < (s2_1.length : Int))) then
    (s2_1[x1.toNat]?).bind fun e_1 =>
    bif (!(decide (e_.1 = e_1.1) && decide (e_.2 = e_1.2))) then
     r0 false
    else
     g x (w64 (x1 + 1)) s1_1 s2_1 b0 r0
   else
    none
  else
   none
 else
  b0 x x1 s1_1 s2_1
def lJ : T87 α
 | 0 => fun _ _ _ _ _ _ => none
 | k + 1 => xQ (lJ k) k
def Ej (G4 : T87 α) : T71 α := fun k s1_ s2_ r0 =>
 bif (!decide ((s1_.length : Int) = (s2_.length : Int))) then
  r0 false
 else
  G4 k (s1_.length : Int) 0 s1_ s2_
   (fun _ _ _ _ =>
     r0 true)
   r0
def vK : T71 α := Ej lJ
def OY (F0 : T19 α) (F1 : T20 α) (F2 : T42 α) (F3 : T19 α) (F4 : T19 α) (F5 : T71 α) : T88 α := fun k a b_ r0 =>
 F0 k a fun v =>
 bif (!v) then
  r0 false 1
 else
  F0 k b_ fun v1 =>
  bif (!v1) then
   r0 false 1
  else
   F1 k a
    (fun v2 =>
      F1 k b_
       (fun v3 =>
         bif (!decide (v2 = 0)) then
          r0 false 3
         else
         bif (!decide (v3 = 0)) then
          r0 false 3
         else
          F2 k fun v4 =>
          r0 v4 0)
       (fun v5 v6 =>
         bif (!decide (v2 = 0)) then
          r0 false 3
         else
         bif (!decide (v6 = 0)) then
          r0 false 3
         else
          F3 k v5 fun v7 =>
          r0 v7 0))
    (fun v8 v9 =>
      F1 k b_
       (fun v10 =>
         bif (!decide (v9 = 0)) then
          r0 false 3
         else
         bif (!decide (v10 = 0)) then
          r0 false 3
         else
          F4 k v8 fun v11 =>
          r0 v11 0)
       (fun v12 v13 =>
         bif (!decide (v9 = 0)) then
          r0 false 3
         else
         bif (!decide (v13 = 0)) then
          r0 false 3
         else
          F5 k v8 v12 fun v14 =>
          r0 v14 0))
def ak : T88 α := OY ay ww qx EQ tY vK
def abU (F0 : T19 α) : T64 α := fun k lists lists1 r0 =>
 F0 k lists fun v =>
 bif (!v) then
  r0 1
 else
  F0 k lists1 fun v1 =>
  bif (!v1) then
   r0 1
  else
   r0 0
def Tq : T64 α := abU uK
def zQ (g : Bool → Int → (List (Int × Int)) → (List (Int × Int)) → (Bool → Int → (List (Int × Int)) → (List (Int × Int)) → Option α) → (Bool → Int → Option α) → Option α) : T82 α := fun _ same i one two b0 r0 =>
 bif decide (i < (one.length : Int)) then
  bif same then
   bif (decide (0 ≤ i) && decide (i < (one.length : Int))) then
    (one[i.toNat]?).bind fun e_ =>
    bif (decide (0 ≤ i) && decide (i < (two.length : Int))) then
     (two[i.toNat]?).bind fun e_1 =>
     g (decide (e_.1 = e_1.1) && decide (e_.2 = e_1.2)) (w64 (i + 1)) one two b0 r0
    else
     none
   else
    none
  else
   b0 same i one two
 else
  b0 same i one two
def oq : T82 α
 | 0 => fun _ _ _ _ _ _ => none
 | k + 1 => zQ (oq k) k
def Xz (F0 : T64 α) (F1 : T76 α) (G10 : T82 α) : T88 α := fun k a b_ r0 =>
 F0 k a b_ fun v =>
 bif (!decide (v = 0)) then
  r0 false v
 else
  F1 k a fun v1 v2 =>
  F1 k b_ fun v3 v4 =>
  bif (!v2) then
   r0 false 3
  else
  bif (!v4) then
   r0 false 3
  else
   G10 k (decide ((v1.length : Int) = (v3.length : Int))) 0 v1 v3
    (fun same1 _ _ _ =>
      r0 same1 0)
    r0
def dJ : T88 α := Xz Tq AQ oq
def RX (g : Int → Int → Bool → Int → List Int → (List (Int × Int)) → (Int → Int → Bool → Int → List Int → (List (Int × Int)) → Option α) → (Bool → Option α) → Option α) : T89 α := fun _ border inner small i code1 list b0 r0 =>
 bif decide (i < (list.length : Int)) then
  bif small then
   bif (decide (0 ≤ i) && decide (i < (list.length : Int))) then
    (list[i.toNat]?).bind fun e_3 =>
    bif decide (e_3.1 ≤ 5) then
     bif (decide (0 ≤ i) && decide (i < (list.length : Int))) then
      (list[i.toNat]?).bind fun e_4 =>
      bif decide ((-5) ≤ e_4.1) then
       bif (decide (0 ≤ i) && decide (i < (list.length : Int))) then
        (list[i.toNat]?).bind fun e_5 =>
        bif decide (e_5.2 ≤ 5) then
         bif (decide (0 ≤ i) && decide (i < (list.length : Int))) then
          (list[i.toNat]?).bind fun e_6 =>
          g border inner (decide ((-5) ≤ e_6.2)) (w64 (i + 1)) code1 list b0 r0
         else
          none
        else
         g border inner false (w64 (i + 1)) code1 list b0 r0
       else
        none
      else
       g border inner false (w64 (i + 1)) code1 list b0 r0
     else
      none
    else
     g border inner false (w64 (i + 1)) code1 list b0 r0
   else
    none
  else
   g border inner false (w64 (i + 1)) code1 list b0 r0
 else
  b0 border inner small i code1 list
noncomputable def bV : T89 α
 | 0 => fun _ _ _ _ _ _ _ _ => none
 | k + 1 => RX (bV k) k
def RQ (F13 : T55 α) (g : Int → Int → Int → Int → Int → Int → List Int → (List (Int × Int)) → (Int → Int → Int → Int → Int → Int → List Int → (List (Int × Int)) → Option α) → (Bool → Option α) → Option α) : T90 α := fun k border3 inner3 inside1 edge1 x1 y code4 list3 b4 r0 =>
 bif decide (y ≤ 5) then
  F13 k list3 x1 y fun v19 v20 =>
  bif (!decide (v20 = 0)) then
   r0 false
  else
  bif decide (v19 = 1) then
   bif decide (v19 = 0) then
    g border3 inner3 (w64 (inside1 + 1)) (w64 (edge1 + 1)) x1 (w64 (y + 1)) code4 list3 b4 r0
   else
    g border3 inner3 (w64 (inside1 + 1)) edge1 x1 (w64 (y + 1)) code4 list3 b4 r0
  else
  bif decide (v19 = 0) then
   g border3 inner3 inside1 (w64 (edge1 + 1)) x1 (w64 (y + 1)) code4 list3 b4 r0
  else
   g border3 inner3 inside1 edge1 x1 (w64 (y + 1)) code4 list3 b4 r0
 else
  b4 border3 inner3 inside1 edge1 x1 y code4 list3
noncomputable def dW : T90 α
 | 0 => fun _ _ _ _ _ _ _ _ _ _ => none
 | k + 1 => RQ cZ (dW k) k
def RV (G31 : T90 α) (g : Int → Int → Int → Int → Int → List Int → (List (Int × Int)) → (Int → Int → Int → Int → Int → List Int → (List (Int × Int)) → Option α) → (Bool → Option α) → Option α) : T91 α := fun k border2 inner2 inside edge x code3 list2 b2 r0 =>
 bif decide (x ≤ 5) then
  G31 k border2 inner2 inside edge x (-5) code3 list2
   (fun border4 inner4 inside2 edge2 x2 _ code5 list4 =>
     g border4 inner4 inside2 edge2 (w64 (x2 + 1)) code5 list4 b2 r0)
   r0
 else
  b2 border2 inner2 inside edge x code3 list2
noncomputable def bJ : T91 α
 | 0 => fun _ _ _ _ _ _ _ _ _ => none
 | k + 1 => RV dW (bJ k) k
def Oy (F0 : Nat → List Int → (Bool → Option α) → Option α) (F1 : Nat → List Int → ((List (Int × Int)) → Option α) → Option α) (F2 : Nat → (List (Int × Int)) → (Int → Option α) → ((List (Int × Int)) → Int → Option α) → Option α) (k : Nat) (code : List Int) (κ5 : Int → List Int → (List (Int × Int)) → (List (Int × Int)) → Option α) (r0 : Bool → Option α) : Option α :=
 F0 k code fun v =>
 bif v then
  r0 true
 else
  F1 k code fun v1 =>
  F2 k v1
   (fun v2 =>
     κ5 v2 code v1 [])
   (fun v3 v4 =>
     κ5 v4 code v1 v3)
def Ik (F3 : Nat → (List (Int × Int)) → (Int → Option α) → ((List (Int × Int)) → Int → Option α) → Option α) (k : Nat) (one : Int) (code1 : List Int) (list : List (Int × Int)) (order : List (Int × Int)) (κ6 : Int → Int → List Int → (List (Int × Int)) → (List (Int × Int)) → (List (Int × Int)) → Option α) (r0 : Bool → Option α) : Option α :=
 F3 k list
  (fun v5 =>
    κ6 one v5 code1 list order [])
  (fun v6 v7 =>
    κ6 one v7 code1 list order v6)
def JY (F5 : Nat → (List (Int × Int)) → (Bool → Option α) → Option α) (F6 : Nat → (List (Int × Int)) → (Bool → Option α) → Option α) (F31 : Nat → (List (Int × Int)) → (List (Int × Int)) → (Bool → Option α) → Option α) (k : Nat) (one1 : Int) (two : Int) (code2 : List Int) (list1 : List (Int × Int)) (order1 : List (Int × Int)) (want : List (Int × Int)) (κ7 : Option α) (κ8 : Int → List Int → (List (Int × Int)) → (List (Int × Int)) → Option α) (r0 : Bool → Option α) : Option α :=
 bif (!decide (one1 = two)) then
  κ7
 else
  F31 k order1 want fun v8 =>
  bif (!v8) then
   κ7
  else
   F5 k list1 fun v9 =>
   F6 k list1 fun v10 =>
   bif (!(v9 == v10)) then
    κ7
   else
    κ8 one1 code2 list1 order1
def XJ (k : Nat)  (r0 : Bool → Option α) : Option α :=
 r0 false
def JZ (F7 : Nat → (List (Int × Int)) → (Int → Option α) → ((List (Int × Int)) → Int → Option α) → Option α) (k : Nat) (one2 : Int) (code3 : List Int) (list2 : List (Int × Int)) (order2 : List (Int × Int)) (κ10 : Int → List Int → (List (Int × Int)) → (List (Int × Int)) → (List (Int × Int)) → Option α) (κ48 : List Int → Option α) (r0 : Bool → Option α) : Option α :=
 bif decide (one2 = 0) then
  F7 k list2
   (fun v11 =>
     κ10 v11 code3 list2 order2 [])
   (fun v12 v13 =>
     κ10 v13 code3 list2 order2 v12)
 else
  κ48 code3
def Pq (F8 : Nat → (List (Int × Int)) → (Int → Int → Option α) → Option α) (F9 : Nat → (List (Int × Int)) → (Int → Int → Option α) → Option α) (F10 : Nat → (List (Int × Int)) → (Int → Int → Option α) → Option α) (F11 : Nat → (List (Int × Int)) → Int → (Int → Int → Option α) → Option α) (F31 : Nat → (List (Int × Int)) → (List (Int × Int)) → (Bool → Option α) → Option α) (k : Nat) (three : Int) (code4 : List Int) (list3 : List (Int × Int)) (order3 : List (Int × Int)) (hull : List (Int × Int)) (κ15 : Option α) (κ16 : Int → Int → Int → List Int → (List (Int × Int)) → Option α) (r0 : Bool → Option α) : Option α :=
 F8 k list3 fun v14 v15 =>
 F9 k list3 fun v16 v17 =>
 F10 k list3 fun v18 v19 =>
 F11 k list3 1 fun v20 v21 =>
 bif (!decide (three = 0)) then
  κ15
 else
 bif (!decide (v15 = 0)) then
  κ15
 else
 bif (!decide (v17 = 0)) then
  κ15
 else
 bif (!decide (v19 = 0)) then
  κ15
 else
 bif (!decide (v21 = 0)) then
  κ15
 else
  F31 k hull order3 fun v22 =>
  bif (!v22) then
   κ15
  else
  bif (!decide (v20 = (w64 (v18 + v16)))) then
   κ15
  else
  bif (!decide (v14 = (w64 ((w64 ((w64 (2 * v18)) + v16)) - 2)))) then
   κ15
  else
   κ16 v14 v16 v18 code4 list3
def XQ (k : Nat)  (r0 : Bool → Option α) : Option α :=
 r0 false
def Pj (F12 : Nat → Int → Int → Int → Int → Int → Int → (Int → Int → Option α) → Option α) (F14 : Nat → Int → Int → Int → Int → (List (Int × Int)) → Int → Int → (Int → Option α) → ((List (Int × Int)) → Int → Option α) → Option α) (G22 : Nat → Int → Int → Bool → Int → List Int → (List (Int × Int)) → (Int → Int → Bool → Int → List Int → (List (Int × Int)) → Option α) → (Bool → Option α) → Option α) (G28 : Nat → Int → Int → Int → Int → Int → List Int → (List (Int × Int)) → (Int → Int → Int → Int → Int → List Int → (List (Int × Int)) → Option α) → (Bool → Option α) → Option α) (k : Nat) (area : Int) (border : Int) (inner : Int) (code5 : List Int) (list4 : List (Int × Int)) (κ19 : Option α) (κ40 : Int → Int → Int → Int → List Int → (List (Int × Int)) → Option α) (κ44 : Int → List Int → (List (Int × Int)) → (List (Int × Int)) → Option α) (r0 : Bool → Option α) : Option α :=
 bif decide ((list4.length : Int) = 3) then
  bif (true && decide (0 < (list4.length : Int))) then
   (list4[0]?).bind fun e_ =>
   bif (true && decide (1 < (list4.length : Int))) then
    (list4[1]?).bind fun e_1 =>
    bif (true && decide (2 < (list4.length : Int))) then
     (list4[2]?).bind fun e_2 =>
     F12 k e_.1 e_.2 e_1.1 e_1.2 e_2.1 e_2.2 fun v23 v24 =>
     bif (!decide (v24 = 0)) then
      κ19
     else
     bif (!decide (v23 = area)) then
      κ19
     else
      G22 k border inner true 0 code5 list4
       (fun border2 inner2 small1 _ code7 list6 =>
         bif small1 then
          G28 k border2 inner2 0 0 (-5) code7 list6
           (fun border6 inner6 inside3 edge3 _ code11 list10 =>
             κ40 border6 inner6 inside3 edge3 code11 list10)
           r0
         else
          F14 k 1 1 0 (-1) list6 1 (-2)
           (fun v27 =>
             κ44 v27 code7 list6 [])
           (fun v28 v29 =>
             κ44 v29 code7 list6 v28))
       r0
    else
     none
   else
    none
  else
   none
 else
  G22 k border inner true 0 code5 list4
   (fun border7 inner7 small2 _ code12 list11 =>
     bif small2 then
      G28 k border7 inner7 0 0 (-5) code12 list11
       (fun border8 inner8 inside4 edge4 _ code13 list12 =>
         κ40 border8 inner8 inside4 edge4 code13 list12)
       r0
     else
      F14 k 1 1 0 (-1) list11 1 (-2)
       (fun v30 =>
         κ44 v30 code12 list11 [])
       (fun v31 v32 =>
         κ44 v32 code12 list11 v31))
   r0
def WY (k : Nat)  (r0 : Bool → Option α) : Option α :=
 r0 false
def Py (F14 : Nat → Int → Int → Int → Int → (List (Int × Int)) → Int → Int → (Int → Option α) → ((List (Int × Int)) → Int → Option α) → Option α) (k : Nat) (border9 : Int) (inner9 : Int) (inside5 : Int) (edge5 : Int) (code14 : List Int) (list13 : List (Int × Int)) (κ41 : Option α) (κ44 : Int → List Int → (List (Int × Int)) → (List (Int × Int)) → Option α) (r0 : Bool → Option α) : Option α :=
 bif (!decide (inside5 = inner9)) then
  κ41
 else
 bif (!decide (edge5 = border9)) then
  κ41
 else
  F14 k 1 1 0 (-1) list13 1 (-2)
   (fun v33 =>
     κ44 v33 code14 list13 [])
   (fun v34 v35 =>
     κ44 v35 code14 list13 v34)
def Ux (k : Nat)  (r0 : Bool → Option α) : Option α :=
 r0 false
def MV (F32 : Nat → (List (Int × Int)) → (List (Int × Int)) → (Bool → Int → Option α) → Option α) (k : Nat) (ten : Int) (code15 : List Int) (list14 : List (Int × Int)) (moved_ : List (Int × Int)) (κ48 : List Int → Option α) (r0 : Bool → Option α) : Option α :=
 bif decide (ten = 0) then
  F32 k list14 moved_ fun v36 v37 =>
  bif decide (v37 = 0) then
   bif (!v36) then
    r0 false
   else
    κ48 code15
  else
   κ48 code15
 else
  κ48 code15
def MX (F16 : Nat → List Int → ((List (Int × Int)) → Option α) → Option α) (F17 : Nat → (List (Int × Int)) → (Int → Option α) → ((List (Int × Int)) → Int → Option α) → Option α) (k : Nat) (code16 : List Int) (κ50 : Int → List Int → (List (Int × Int)) → (List (Int × Int)) → Option α) (r0 : Bool → Option α) : Option α :=
 F16 k code16 fun v38 =>
 F17 k v38
  (fun v39 =>
    κ50 v39 code16 v38 [])
  (fun v40 v41 =>
    κ50 v41 code16 v38 v40)
def Gx (F18 : Nat → (List (Int × Int)) → (Int → Option α) → ((List (Int × Int)) → Int → Option α) → Option α) (k : Nat) (twelve : Int) (code17 : List Int) (a : List (Int × Int)) (normal : List (Int × Int)) (κ51 : Int → Int → List Int → (List (Int × Int)) → (List (Int × Int)) → Option α) (r0 : Bool → Option α) : Option α :=
 F18 k a
  (fun v42 =>
    κ51 twelve v42 code17 normal [])
  (fun v43 v44 =>
    κ51 twelve v44 code17 normal v43)
def NW (F19 : Nat → List Int → ((List (Int × Int)) → Option α) → ((List (Int × Int)) → (List (Int × Int)) → Option α) → Option α) (k : Nat) (twelve1 : Int) (thirteen : Int) (code18 : List Int) (normal1 : List (Int × Int)) (due : List (Int × Int)) (κ52 : Int → Int → List Int → (List (Int × Int)) → (List (Int × Int)) → (List (Int × Int)) → (List (Int × Int)) → Option α) (r0 : Bool → Option α) : Option α :=
 F19 k code18
  (fun v45 =>
    κ52 twelve1 thirteen code18 normal1 due v45 [])
  (fun v46 v47 =>
    κ52 twelve1 thirteen code18 normal1 due v46 v47)
def MK (F7 : Nat → (List (Int × Int)) → (Int → Option α) → ((List (Int × Int)) → Int → Option α) → Option α) (F21 : Nat → List Int → ((List (Int × Int)) → Option α) → Option α) (F32 : Nat → (List (Int × Int)) → (List (Int × Int)) → (Bool → Int → Option α) → Option α) (F33 : Nat → (List (Int × Int)) → (List (Int × Int)) → (Bool → Int → Option α) → Option α) (k : Nat) (twelve2 : Int) (thirteen1 : Int) (code19 : List Int) (normal2 : List (Int × Int)) (due1 : List (Int × Int)) (b_ : List (Int × Int)) (c : List (Int × Int)) (κ56 : Int → Int → Bool → Int → Bool → Int → Int → List Int → (List (Int × Int)) → (List (Int × Int)) → (List (Int × Int)) → (List (Int × Int)) → Option α) (r0 : Bool → Option α) : Option α :=
 F32 k b_ c fun v48 v49 =>
 F33 k b_ c fun v50 v51 =>
 F21 k code19 fun v52 =>
 F7 k v52
  (fun v53 =>
    κ56 twelve2 thirteen1 v48 v49 v50 v51 v53 code19 normal2 due1 v52 [])
  (fun v54 v55 =>
    κ56 twelve2 thirteen1 v48 v49 v50 v51 v55 code19 normal2 due1 v52 v54)
def Hq (F22 : Nat → (List (Int × Int)) → (Int → Option α) → ((List (Int × Int)) → Int → Option α) → Option α) (k : Nat) (twelve3 : Int) (thirteen2 : Int) (like : Bool) (fourteen : Int) (own : Bool) (fifteen : Int) (sixteen : Int) (code20 : List Int) (normal3 : List (Int × Int)) (due2 : List (Int × Int)) (d : List (Int × Int)) (hull1 : List (Int × Int)) (κ57 : Int → Int → Bool → Int → Bool → Int → Int → Int → List Int → (List (Int × Int)) → (List (Int × Int)) → (List (Int × Int)) → (List (Int × Int)) → Option α) (r0 : Bool → Option α) : Option α :=
 F22 k d
  (fun v56 =>
    κ57 twelve3 thirteen2 like fourteen own fifteen sixteen v56 code20 normal3 due2 hull1 [])
  (fun v57 v58 =>
    κ57 twelve3 thirteen2 like fourteen own fifteen sixteen v58 code20 normal3 due2 hull1 v57)
def NZ (F10 : Nat → (List (Int × Int)) → (Int → Int → Option α) → Option α) (F11 : Nat → (List (Int × Int)) → Int → (Int → Int → Option α) → Option α) (F13 : Nat → (List (Int × Int)) → Int → Int → (Int → Int → Option α) → Option α) (F23 : Nat → List Int → ((List (Int × Int)) → Int → Int → Option α) → Option α) (F24 : Nat → (List (Int × Int)) → Int → Int → (Int → Int → Option α) → Option α) (F25 : Nat → List Int → ((List (Int × Int)) → Int → Option α) → Option α) (F26 : Nat → (List (Int × Int)) → Int → (Int → Int → Option α) → Option α) (F27 : Nat → List Int → ((List (Int × Int)) → Option α) → Option α) (F28 : Nat → (List (Int × Int)) → (Int → Int → Option α) → Option α) (F31 : Nat → (List (Int × Int)) → (List (Int × Int)) → (Bool → Option α) → Option α) (k : Nat) (twelve4 : Int) (thirteen3 : Int) (like1 : Bool) (fourteen1 : Int) (own1 : Bool) (fifteen1 : Int) (sixteen1 : Int) (seventeen : Int) (code21 : List Int) (normal4 : List (Int × Int)) (due3 : List (Int × Int)) (hull2 : List (Int × Int)) (less : List (Int × Int)) (r0 : Bool → Option α) : Option α :=
 F23 k code21 fun v59 v60 v61 =>
 F13 k v59 v60 v61 fun v62 v63 =>
 F24 k v59 v60 v61 fun v64 v65 =>
 F25 k code21 fun v66 v67 =>
 F11 k v66 v67 fun v68 v69 =>
 F26 k v66 v67 fun v70 v71 =>
 F27 k code21 fun v72 =>
 F10 k v72 fun v73 v74 =>
 F28 k v72 fun v75 v76 =>
 bif decide (twelve4 = thirteen3) then
  F31 k normal4 due3 fun v77 =>
  bif v77 then
   bif decide (fourteen1 = fifteen1) then
    bif (like1 == own1) then
     bif decide (sixteen1 = seventeen) then
      F31 k hull2 less fun v78 =>
      bif v78 then
       bif decide (v63 = v65) then
        bif decide (v62 = v64) then
         bif decide (v69 = v71) then
          bif decide (v68 = v70) then
           bif decide (v74 = v76) then
            r0 (decide (v73 = v75))
           else
            r0 false
          else
           r0 false
         else
          r0 false
        else
         r0 false
       else
        r0 false
      else
       r0 false
     else
      r0 false
    else
     r0 false
   else
    r0 false
  else
   r0 false
 else
  r0 false
noncomputable def Nj (k : Nat) (twelve4 : Int) (thirteen3 : Int) (like1 : Bool) (fourteen1 : Int) (own1 : Bool) (fifteen1 : Int) (sixteen1 : Int) (seventeen : Int) (code21 : List Int) (normal4 : List (Int × Int)) (due3 : List (Int × Int)) (hull2 : List (Int × Int)) (less : List (Int × Int)) (r0 : Bool → Option α) : Option α :=
 NZ fZ ax cZ aY dV aV dQ dZ gZ gz k twelve4 thirteen3 like1 fourteen1 own1 fifteen1 sixteen1 seventeen code21 normal4 due3 hull2 less r0
noncomputable def NY (k : Nat) (twelve3 : Int) (thirteen2 : Int) (like : Bool) (fourteen : Int) (own : Bool) (fifteen : Int) (sixteen : Int) (code20 : List Int) (normal3 : List (Int × Int)) (due2 : List (Int × Int)) (d : List (Int × Int)) (hull1 : List (Int × Int)) (r0 : Bool → Option α) : Option α :=
 Hq iY k twelve3 thirteen2 like fourteen own fifteen sixteen code20 normal3 due2 d hull1 (fun twelve4 thirteen3 like1 fourteen1 own1 fifteen1 sixteen1 seventeen code21 normal4 due3 hull2 less => Nj k twelve4 thirteen3 like1 fourteen1 own1 fifteen1 sixteen1 seventeen code21 normal4 due3 hull2 less r0) r0
noncomputable def NV (k : Nat) (twelve2 : Int) (thirteen1 : Int) (code19 : List Int) (normal2 : List (Int × Int)) (due1 : List (Int × Int)) (b_ : List (Int × Int)) (c : List (Int × Int)) (r0 : Bool → Option α) : Option α :=
 MK iJ gV ak dJ k twelve2 thirteen1 code19 normal2 due1 b_ c (fun twelve3 thirteen2 like fourteen own fifteen sixteen code20 normal3 due2 d hull1 => NY k twelve3 thirteen2 like fourteen own fifteen sixteen code20 normal3 due2 d hull1 r0) r0
noncomputable def NK (k : Nat) (twelve1 : Int) (thirteen : Int) (code18 : List Int) (normal1 : List (Int × Int)) (due : List (Int × Int)) (r0 : Bool → Option α) : Option α :=
 NW aZ k twelve1 thirteen code18 normal1 due (fun twelve2 thirteen1 code19 normal2 due1 b_ c => NV k twelve2 thirteen1 code19 normal2 due1 b_ c r0) r0
noncomputable def NQ (k : Nat) (twelve : Int) (code17 : List Int) (a : List (Int × Int)) (normal : List (Int × Int)) (r0 : Bool → Option α) : Option α :=
 Gx eQ k twelve code17 a normal (fun twelve1 thirteen code18 normal1 due => NK k twelve1 thirteen code18 normal1 due r0) r0
noncomputable def Dw (k : Nat) (code16 : List Int) (r0 : Bool → Option α) : Option α :=
 MX bQ dK k code16 (fun twelve code17 a normal => NQ k twelve code17 a normal r0) r0
noncomputable def sJ (k : Nat) (ten : Int) (code15 : List Int) (list14 : List (Int × Int)) (moved_ : List (Int × Int)) (r0 : Bool → Option α) : Option α :=
 MV ak k ten code15 list14 moved_ (fun code16 => Dw k code16 r0) r0
noncomputable def aa2 (k : Nat)  (r0 : Bool → Option α) : Option α :=
 Ux k r0
noncomputable def Jq (k : Nat) (border9 : Int) (inner9 : Int) (inside5 : Int) (edge5 : Int) (code14 : List Int) (list13 : List (Int × Int)) (r0 : Bool → Option α) : Option α :=
 Py fJ k border9 inner9 inside5 edge5 code14 list13 (aa2 k r0) (fun ten code15 list14 moved_ => sJ k ten code15 list14 moved_ r0) r0
noncomputable def abt (k : Nat)  (r0 : Bool → Option α) : Option α :=
 WY k r0
noncomputable def Pz (k : Nat) (area : Int) (border : Int) (inner : Int) (code5 : List Int) (list4 : List (Int × Int)) (r0 : Bool → Option α) : Option α :=
 Pj jQ fJ bV bJ k area border inner code5 list4 (abt k r0) (fun border9 inner9 inside5 edge5 code14 list13 => Jq k border9 inner9 inside5 edge5 code14 list13 r0) (fun ten code15 list14 moved_ => sJ k ten code15 list14 moved_ r0) r0
noncomputable def abw (k : Nat)  (r0 : Bool → Option α) : Option α :=
 XQ k r0
noncomputable def PK (k : Nat) (three : Int) (code4 : List Int) (list3 : List (Int × Int)) (order3 : List (Int × Int)) (hull : List (Int × Int)) (r0 : Bool → Option α) : Option α :=
 Pq fQ gQ fZ ax gz k three code4 list3 order3 hull (abw k r0) (fun area border inner code5 list4 => Pz k area border inner code5 list4 r0) r0
noncomputable def FW (k : Nat) (one2 : Int) (code3 : List Int) (list2 : List (Int × Int)) (order2 : List (Int × Int)) (r0 : Bool → Option α) : Option α :=
 JZ iJ k one2 code3 list2 order2 (fun three code4 list3 order3 hull => PK k three code4 list3 order3 hull r0) (fun code16 => Dw k code16 r0) r0
noncomputable def abh (k : Nat)  (r0 : Bool → Option α) : Option α :=
 XJ k r0
noncomputable def EW (k : Nat) (one1 : Int) (two : Int) (code2 : List Int) (list1 : List (Int × Int)) (order1 : List (Int × Int)) (want : List (Int × Int)) (r0 : Bool → Option α) : Option α :=
 JY ay gX gz k one1 two code2 list1 order1 want (abh k r0) (fun one2 code3 list2 order2 => FW k one2 code3 list2 order2 r0) r0
noncomputable def Px (k : Nat) (one : Int) (code1 : List Int) (list : List (Int × Int)) (order : List (Int × Int)) (r0 : Bool → Option α) : Option α :=
 Ik fV k one code1 list order (fun one1 two code2 list1 order1 want => EW k one1 two code2 list1 order1 want r0) r0
noncomputable def abG (k : Nat) (code : List Int) (r0 : Bool → Option α) : Option α :=
 Oy kX bY fK k code (fun one code1 list order => Px k one code1 list order r0) r0
noncomputable def WZ (k : Nat) (code : List Int) (r0 : Bool → Option α) : Option α := abG k code r0
end Go.Sh
