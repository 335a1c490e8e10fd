/- The program's functions, read without memory: printed by a program of ours. -/
import Derived.Test.YthjehhoafmnmkaaMaB
namespace Go.Sh
open Go Go.Ev
variable {α : Type}
def Aw (k : Nat) (a : Int) (b_ : Int) (r0 : Int → Option α) : Option α :=
 bif decide (b_ = 0) then
  none
 else
 bif decide (b_ = 0) then
  none
 else
 bif (!decide ((Int.tmod a b_) = 0)) then
  bif (!(decide (a < 0) == decide (b_ < 0))) then
   r0 (w64 ((w64 (Int.tdiv a b_)) - 1))
  else
   r0 (w64 (Int.tdiv a b_))
 else
  r0 (w64 (Int.tdiv a b_))
def EQ (k : Nat) (a : Int) (b_ : Int) (r0 : Int → Option α) : Option α :=
 Aw k a b_ fun v =>
 r0 (w64 (a - (w64 (b_ * v))))
def oz (k : Nat) (x : Int) (r0 : Bool → Option α) : Option α :=
 r0 (!decide (x = x))
def gq (k : Nat) (x : Int) (y : Int) (r0 : Int → Option α) : Option α :=
 oz k x fun v =>
 oz k y fun v1 =>
 bif v then
  bif v1 then
   r0 0
  else
   r0 (-1)
 else
 bif v1 then
  r0 1
 else
 bif decide (x < y) then
  r0 (-1)
 else
 bif decide (y < x) then
  r0 1
 else
  r0 0
def dW (k : Nat) (a : Int) (b_ : Int) (x : Int) (x1 : Int) (r0 : Int → Option α) : Option α :=
 EQ k (w64 (a * x)) x1 fun v =>
 EQ k (w64 (b_ * x)) x1 fun v1 =>
 gq k v v1 fun v2 =>
 r0 v2
def bQ : Nat → Int → Int → Int → Int → List Int → Int → Int → (Int → Int → Int → Int → List Int → Int → Int → Option α) → (List Int → Option α) → Option α
 | 0, _, _, _, _, _, _, _, _, _ => none
 | k + 1, a2, b_4, i1, j, data2, b_5, b_6, b2, r0 =>
   bif decide (a2 < j) then
    bif (decide (0 ≤ j) && decide (j < (data2.length : Int))) then
     (data2[j.toNat]?).bind fun e_ =>
     bif (decide (0 ≤ (w64 (j - 1))) && decide ((w64 (j - 1)) < (data2.length : Int))) then
      (data2[(w64 (j - 1)).toNat]?).bind fun e_1 =>
      dW k e_ e_1 b_5 b_6 fun v =>
      bif decide (v < 0) then
       bif (decide (0 ≤ (w64 (j - 1))) && decide ((w64 (j - 1)) < (data2.length : Int))) then
        (data2[(w64 (j - 1)).toNat]?).bind fun e_2 =>
        bif (decide (0 ≤ j) && decide (j < (data2.length : Int))) then
         (data2[j.toNat]?).bind fun e_3 =>
         bif (decide (0 ≤ j) && decide (j < (data2.length : Int))) then
          (data2[j.toNat]?).bind fun _ =>
          bif (decide (0 ≤ (w64 (j - 1))) && decide ((w64 (j - 1)) < (((List.length (List.set data2 j.toNat e_2)) : Nat) : Int))) then
           ((List.set data2 j.toNat e_2)[(w64 (j - 1)).toNat]?).bind fun _ =>
           bQ k a2 b_4 i1 (w64 (j - 1)) (List.set (List.set data2 j.toNat e_2) ((w64 (j - 1)).toNat) e_3) b_5 b_6 b2 r0
          else
           none
         else
          none
        else
         none
       else
        none
      else
       b2 a2 b_4 i1 j data2 b_5 b_6
     else
      none
    else
     none
   else
    b2 a2 b_4 i1 j data2 b_5 b_6
def aj : Nat → Int → Int → Int → List Int → Int → Int → (Int → Int → Int → List Int → Int → Int → Option α) → (List Int → Option α) → Option α
 | 0, _, _, _, _, _, _, _, _ => none
 | k + 1, a1, b_1, i, data1, b_2, b_3, b0, r0 =>
   bif decide (i < b_1) then
    bQ k a1 b_1 i i data1 b_2 b_3
     (fun a3 b_7 i2 _ data3 b_8 b_9 =>
       aj k a3 b_7 (w64 (i2 + 1)) data3 b_8 b_9 b0 r0)
     r0
   else
    b0 a1 b_1 i data1 b_2 b_3
def ax (k : Nat) (data : List Int) (a : Int) (b_ : Int) (cmp : Int) (cmp1 : Int) (r0 : List Int → Option α) : Option α :=
 aj k a b_ (w64 (a + 1)) data cmp cmp1
  (fun _ _ _ data4 _ _ =>
    r0 data4)
  r0
def bK : Nat → Int → Int → Int → Int → List Int → (Int → Int → Int → Int → List Int → Option α) → (List Int → Option α) → Option α
 | 0, _, _, _, _, _, _, _ => none
 | k + 1, a1, b_1, n_1, i, data1, b0, r0 =>
   bif decide (i < n_1) then
    bif (decide (0 ≤ (w64 (b_1 + i))) && decide ((w64 (b_1 + i)) < (data1.length : Int))) then
     (data1[(w64 (b_1 + i)).toNat]?).bind fun e_ =>
     bif (decide (0 ≤ (w64 (a1 + i))) && decide ((w64 (a1 + i)) < (data1.length : Int))) then
      (data1[(w64 (a1 + i)).toNat]?).bind fun e_1 =>
      bif (decide (0 ≤ (w64 (a1 + i))) && decide ((w64 (a1 + i)) < (data1.length : Int))) then
       (data1[(w64 (a1 + i)).toNat]?).bind fun _ =>
       bif (decide (0 ≤ (w64 (b_1 + i))) && decide ((w64 (b_1 + i)) < (((List.length (List.set data1 ((w64 (a1 + i)).toNat) e_)) : Nat) : Int))) then
        ((List.set data1 ((w64 (a1 + i)).toNat) e_)[(w64 (b_1 + i)).toNat]?).bind fun _ =>
        bK k a1 b_1 n_1 (w64 (i + 1)) (List.set (List.set data1 ((w64 (a1 + i)).toNat) e_) ((w64 (b_1 + i)).toNat) e_1) b0 r0
       else
        none
      else
       none
     else
      none
    else
     none
   else
    b0 a1 b_1 n_1 i data1
def bJ (k : Nat) (data : List Int) (a : Int) (b_ : Int) (n_ : Int) (cmp : Int) (cmp1 : Int) (r0 : List Int → Option α) : Option α :=
 bK k a b_ n_ 0 data
  (fun _ _ _ _ data2 =>
    r0 data2)
  r0
def dQ : Nat → Int → Int → Int → List Int → Int → Int → (Int → Int → Int → List Int → Int → Int → Option α) → (List Int → Option α) → Option α
 | 0, _, _, _, _, _, _, _, _ => none
 | k + 1, m1, i, j, data1, b_1, b_2, b0, r0 =>
   bif (!decide (i = j)) then
    bif decide (j < i) then
     bJ k data1 (w64 (m1 - i)) m1 j b_1 b_2 fun v =>
     dQ k m1 (w64 (i - j)) j v b_1 b_2 b0 r0
    else
     bJ k data1 (w64 (m1 - i)) (w64 ((w64 (m1 + j)) - i)) i b_1 b_2 fun v1 =>
     dQ k m1 i (w64 (j - i)) v1 b_1 b_2 b0 r0
   else
    b0 m1 i j data1 b_1 b_2
def aX (k : Nat) (data : List Int) (a : Int) (m : Int) (b_ : Int) (cmp : Int) (cmp1 : Int) (r0 : List Int → Option α) : Option α :=
 dQ k m (w64 (m - a)) (w64 (b_ - m)) data cmp cmp1
  (fun m2 i1 _ data2 b_3 b_4 =>
    bJ k data2 (w64 (m2 - i1)) m2 i1 b_3 b_4 fun v2 =>
    r0 v2)
  r0
def aY : Nat → Int → Int → Int → List Int → Int → Int → (Int → Int → Int → List Int → Int → Int → Option α) → (List Int → Option α) → Option α
 | 0, _, _, _, _, _, _, _, _ => none
 | k + 1, a1, i, j, data1, b_1, b_2, b0, r0 =>
   bif decide (i < j) then
    bif (decide (0 ≤ (w64 (Int.fdiv (IntKind.wrap .u64 (w64 (i + j))) (2 ^ 1)))) && decide ((w64 (Int.fdiv (IntKind.wrap .u64 (w64 (i + j))) (2 ^ 1))) < (data1.length : Int))) then
     (data1[(w64 (Int.fdiv (IntKind.wrap .u64 (w64 (i + j))) (2 ^ 1))).toNat]?).bind fun e_ =>
     bif (decide (0 ≤ a1) && decide (a1 < (data1.length : Int))) then
      (data1[a1.toNat]?).bind fun e_1 =>
      dW k e_ e_1 b_1 b_2 fun v =>
      bif decide (v < 0) then
       aY k a1 (w64 ((w64 (Int.fdiv (IntKind.wrap .u64 (w64 (i + j))) (2 ^ 1))) + 1)) j data1 b_1 b_2 b0 r0
      else
       aY k a1 i (w64 (Int.fdiv (IntKind.wrap .u64 (w64 (i + j))) (2 ^ 1))) data1 b_1 b_2 b0 r0
     else
      none
    else
     none
   else
    b0 a1 i j data1 b_1 b_2
def aV : Nat → Int → Int → List Int → (Int → Int → List Int → Option α) → (List Int → Option α) → Option α
 | 0, _, _, _, _, _ => none
 | k + 1, i2, k_, data3, b2, r0 =>
   bif decide (k_ < (w64 (i2 - 1))) then
    bif (decide (0 ≤ (w64 (k_ + 1))) && decide ((w64 (k_ + 1)) < (data3.length : Int))) then
     (data3[(w64 (k_ + 1)).toNat]?).bind fun e_2 =>
     bif (decide (0 ≤ k_) && decide (k_ < (data3.length : Int))) then
      (data3[k_.toNat]?).bind fun e_3 =>
      bif (decide (0 ≤ k_) && decide (k_ < (data3.length : Int))) then
       (data3[k_.toNat]?).bind fun _ =>
       bif (decide (0 ≤ (w64 (k_ + 1))) && decide ((w64 (k_ + 1)) < (((List.length (List.set data3 k_.toNat e_2)) : Nat) : Int))) then
        ((List.set data3 k_.toNat e_2)[(w64 (k_ + 1)).toNat]?).bind fun _ =>
        aV k i2 (w64 (k_ + 1)) (List.set (List.set data3 k_.toNat e_2) ((w64 (k_ + 1)).toNat) e_3) b2 r0
       else
        none
      else
       none
     else
      none
    else
     none
   else
    b2 i2 k_ data3
def aW : Nat → Int → Int → Int → List Int → Int → Int → (Int → Int → Int → List Int → Int → Int → Option α) → (List Int → Option α) → Option α
 | 0, _, _, _, _, _, _, _, _ => none
 | k + 1, m1, i4, j2, data5, b_5, b_6, b4, r0 =>
   bif decide (i4 < j2) then
    bif (decide (0 ≤ m1) && decide (m1 < (data5.length : Int))) then
     (data5[m1.toNat]?).bind fun e_4 =>
     bif (decide (0 ≤ (w64 (Int.fdiv (IntKind.wrap .u64 (w64 (i4 + j2))) (2 ^ 1)))) && decide ((w64 (Int.fdiv (IntKind.wrap .u64 (w64 (i4 + j2))) (2 ^ 1))) < (data5.length : Int))) then
      (data5[(w64 (Int.fdiv (IntKind.wrap .u64 (w64 (i4 + j2))) (2 ^ 1))).toNat]?).bind fun e_5 =>
      dW k e_4 e_5 b_5 b_6 fun v1 =>
      bif (!decide (v1 < 0)) then
       aW k m1 (w64 ((w64 (Int.fdiv (IntKind.wrap .u64 (w64 (i4 + j2))) (2 ^ 1))) + 1)) j2 data5 b_5 b_6 b4 r0
      else
       aW k m1 i4 (w64 (Int.fdiv (IntKind.wrap .u64 (w64 (i4 + j2))) (2 ^ 1))) data5 b_5 b_6 b4 r0
     else
      none
    else
     none
   else
    b4 m1 i4 j2 data5 b_5 b_6
def aZ : Nat → Int → Int → List Int → (Int → Int → List Int → Option α) → (List Int → Option α) → Option α
 | 0, _, _, _, _, _ => none
 | k + 1, i6, k_2, data7, b6, r0 =>
   bif decide (i6 < k_2) then
    bif (decide (0 ≤ (w64 (k_2 - 1))) && decide ((w64 (k_2 - 1)) < (data7.length : Int))) then
     (data7[(w64 (k_2 - 1)).toNat]?).bind fun e_6 =>
     bif (decide (0 ≤ k_2) && decide (k_2 < (data7.length : Int))) then
      (data7[k_2.toNat]?).bind fun e_7 =>
      bif (decide (0 ≤ k_2) && decide (k_2 < (data7.length : Int))) then
       (data7[k_2.toNat]?).bind fun _ =>
       bif (decide (0 ≤ (w64 (k_2 - 1))) && decide ((w64 (k_2 - 1)) < (((List.length (List.set data7 k_2.toNat e_6)) : Nat) : Int))) then
        ((List.set data7 k_2.toNat e_6)[(w64 (k_2 - 1)).toNat]?).bind fun _ =>
        aZ k i6 (w64 (k_2 - 1)) (List.set (List.set data7 k_2.toNat e_6) ((w64 (k_2 - 1)).toNat) e_7) b6 r0
       else
        none
      else
       none
     else
      none
    else
     none
   else
    b6 i6 k_2 data7
def aJ : Nat → Int → Int → Int → Int → Int → Int → Int → Int → List Int → Int → Int → (Int → Int → Int → Int → Int → Int → Int → Int → List Int → Int → Int → Option α) → (List Int → Option α) → Option α
 | 0, _, _, _, _, _, _, _, _, _, _, _, _, _ => none
 | k + 1, a3, m3, b_9, mid, n_, start, r_, p_, data9, b_10, b_11, b8, r0 =>
   bif decide (start < r_) then
    bif (decide (0 ≤ (w64 (p_ - (w64 (Int.fdiv (IntKind.wrap .u64 (w64 (start + r_))) (2 ^ 1)))))) && decide ((w64 (p_ - (w64 (Int.fdiv (IntKind.wrap .u64 (w64 (start + r_))) (2 ^ 1))))) < (data9.length : Int))) then
     (data9[(w64 (p_ - (w64 (Int.fdiv (IntKind.wrap .u64 (w64 (start + r_))) (2 ^ 1))))).toNat]?).bind fun e_8 =>
     bif (decide (0 ≤ (w64 (Int.fdiv (IntKind.wrap .u64 (w64 (start + r_))) (2 ^ 1)))) && decide ((w64 (Int.fdiv (IntKind.wrap .u64 (w64 (start + r_))) (2 ^ 1))) < (data9.length : Int))) then
      (data9[(w64 (Int.fdiv (IntKind.wrap .u64 (w64 (start + r_))) (2 ^ 1))).toNat]?).bind fun e_9 =>
      dW k e_8 e_9 b_10 b_11 fun v2 =>
      bif (!decide (v2 < 0)) then
       aJ k a3 m3 b_9 mid n_ (w64 ((w64 (Int.fdiv (IntKind.wrap .u64 (w64 (start + r_))) (2 ^ 1))) + 1)) r_ p_ data9 b_10 b_11 b8 r0
      else
       aJ k a3 m3 b_9 mid n_ start (w64 (Int.fdiv (IntKind.wrap .u64 (w64 (start + r_))) (2 ^ 1))) p_ data9 b_10 b_11 b8 r0
     else
      none
    else
     none
   else
    b8 a3 m3 b_9 mid n_ start r_ p_ data9 b_10 b_11
def aQ : Nat → List Int → Int → Int → Int → Int → Int → (List Int → Option α) → Option α
 | 0, _, _, _, _, _, _, _ => none
 | k + 1, data, a, m, b_, cmp, cmp1, r0 =>
   bif decide ((w64 (m - a)) = 1) then
    aY k a m b_ data cmp cmp1
     (fun a2 i1 _ data2 _ _ =>
       aV k i1 a2 data2
        (fun _ _ data4 =>
          r0 data4)
        r0)
     r0
   else
   bif decide ((w64 (b_ - m)) = 1) then
    aW k m a m data cmp cmp1
     (fun m2 i5 _ data6 _ _ =>
       aZ k i5 m2 data6
        (fun _ _ data8 =>
          r0 data8)
        r0)
     r0
   else
   bif decide ((w64 (Int.fdiv (IntKind.wrap .u64 (w64 (a + b_))) (2 ^ 1))) < m) then
    aJ k a m b_ (w64 (Int.fdiv (IntKind.wrap .u64 (w64 (a + b_))) (2 ^ 1))) (w64 ((w64 (Int.fdiv (IntKind.wrap .u64 (w64 (a + b_))) (2 ^ 1))) + m)) (w64 ((w64 ((w64 (Int.fdiv (IntKind.wrap .u64 (w64 (a + b_))) (2 ^ 1))) + m)) - b_)) (w64 (Int.fdiv (IntKind.wrap .u64 (w64 (a + b_))) (2 ^ 1))) (w64 ((w64 ((w64 (Int.fdiv (IntKind.wrap .u64 (w64 (a + b_))) (2 ^ 1))) + m)) - 1)) data cmp cmp1
     (fun a4 m4 b_12 mid1 n_1 start1 _ _ data10 b_13 b_14 =>
       bif decide (start1 < m4) then
        bif decide (m4 < (w64 (n_1 - start1))) then
         aX k data10 start1 m4 (w64 (n_1 - start1)) b_13 b_14 fun v3 =>
         bif decide (a4 < start1) then
          bif decide (start1 < mid1) then
           aQ k v3 a4 start1 mid1 b_13 b_14 fun v4 =>
           bif decide (mid1 < (w64 (n_1 - start1))) then
            bif decide ((w64 (n_1 - start1)) < b_12) then
             aQ k v4 mid1 (w64 (n_1 - start1)) b_12 b_13 b_14 fun v5 =>
             r0 v5
            else
             r0 v4
           else
            r0 v4
          else
          bif decide (mid1 < (w64 (n_1 - start1))) then
           bif decide ((w64 (n_1 - start1)) < b_12) then
            aQ k v3 mid1 (w64 (n_1 - start1)) b_12 b_13 b_14 fun v6 =>
            r0 v6
           else
            r0 v3
          else
           r0 v3
         else
         bif decide (mid1 < (w64 (n_1 - start1))) then
          bif decide ((w64 (n_1 - start1)) < b_12) then
           aQ k v3 mid1 (w64 (n_1 - start1)) b_12 b_13 b_14 fun v7 =>
           r0 v7
          else
           r0 v3
         else
          r0 v3
        else
        bif decide (a4 < start1) then
         bif decide (start1 < mid1) then
          aQ k data10 a4 start1 mid1 b_13 b_14 fun v8 =>
          bif decide (mid1 < (w64 (n_1 - start1))) then
           bif decide ((w64 (n_1 - start1)) < b_12) then
            aQ k v8 mid1 (w64 (n_1 - start1)) b_12 b_13 b_14 fun v9 =>
            r0 v9
           else
            r0 v8
          else
           r0 v8
         else
         bif decide (mid1 < (w64 (n_1 - start1))) then
          bif decide ((w64 (n_1 - start1)) < b_12) then
           aQ k data10 mid1 (w64 (n_1 - start1)) b_12 b_13 b_14 fun v10 =>
           r0 v10
          else
           r0 data10
         else
          r0 data10
        else
        bif decide (mid1 < (w64 (n_1 - start1))) then
         bif decide ((w64 (n_1 - start1)) < b_12) then
          aQ k data10 mid1 (w64 (n_1 - start1)) b_12 b_13 b_14 fun v11 =>
          r0 v11
         else
          r0 data10
        else
         r0 data10
       else
       bif decide (a4 < start1) then
        bif decide (start1 < mid1) then
         aQ k data10 a4 start1 mid1 b_13 b_14 fun v12 =>
         bif decide (mid1 < (w64 (n_1 - start1))) then
          bif decide ((w64 (n_1 - start1)) < b_12) then
           aQ k v12 mid1 (w64 (n_1 - start1)) b_12 b_13 b_14 fun v13 =>
           r0 v13
          else
           r0 v12
         else
          r0 v12
        else
        bif decide (mid1 < (w64 (n_1 - start1))) then
         bif decide ((w64 (n_1 - start1)) < b_12) then
          aQ k data10 mid1 (w64 (n_1 - start1)) b_12 b_13 b_14 fun v14 =>
          r0 v14
         else
          r0 data10
        else
         r0 data10
       else
       bif decide (mid1 < (w64 (n_1 - start1))) then
        bif decide ((w64 (n_1 - start1)) < b_12) then
         aQ k data10 mid1 (w64 (n_1 - start1)) b_12 b_13 b_14 fun v15 =>
         r0 v15
        else
         r0 data10
       else
        r0 data10)
     r0
   else
    aJ k a m b_ (w64 (Int.fdiv (IntKind.wrap .u64 (w64 (a + b_))) (2 ^ 1))) (w64 ((w64 (Int.fdiv (IntKind.wrap .u64 (w64 (a + b_))) (2 ^ 1))) + m)) a m (w64 ((w64 ((w64 (Int.fdiv (IntKind.wrap .u64 (w64 (a + b_))) (2 ^ 1))) + m)) - 1)) data cmp cmp1
     (fun a5 m5 b_15 mid2 n_2 start2 _ _ data11 b_16 b_17 =>
       bif decide (start2 < m5) then
        bif decide (m5 < (w64 (n_2 - start2))) then
         aX k data11 start2 m5 (w64 (n_2 - start2)) b_16 b_17 fun v16 =>
         bif decide (a5 < start2) then
          bif decide (start2 < mid2) then
           aQ k v16 a5 start2 mid2 b_16 b_17 fun v17 =>
           bif decide (mid2 < (w64 (n_2 - start2))) then
            bif decide ((w64 (n_2 - start2)) < b_15) then
             aQ k v17 mid2 (w64 (n_2 - start2)) b_15 b_16 b_17 fun v18 =>
             r0 v18
            else
             r0 v17
           else
            r0 v17
          else
          bif decide (mid2 < (w64 (n_2 - start2))) then
           bif decide ((w64 (n_2 - start2)) < b_15) then
            aQ k v16 mid2 (w64 (n_2 - start2)) b_15 b_16 b_17 fun v19 =>
            r0 v19
           else
            r0 v16
          else
           r0 v16
         else
         bif decide (mid2 < (w64 (n_2 - start2))) then
          bif decide ((w64 (n_2 - start2)) < b_15) then
           aQ k v16 mid2 (w64 (n_2 - start2)) b_15 b_16 b_17 fun v20 =>
           r0 v20
          else
           r0 v16
         else
          r0 v16
        else
        bif decide (a5 < start2) then
         bif decide (start2 < mid2) then
          aQ k data11 a5 start2 mid2 b_16 b_17 fun v21 =>
          bif decide (mid2 < (w64 (n_2 - start2))) then
           bif decide ((w64 (n_2 - start2)) < b_15) then
            aQ k v21 mid2 (w64 (n_2 - start2)) b_15 b_16 b_17 fun v22 =>
            r0 v22
           else
            r0 v21
          else
           r0 v21
         else
         bif decide (mid2 < (w64 (n_2 - start2))) then
          bif decide ((w64 (n_2 - start2)) < b_15) then
           aQ k data11 mid2 (w64 (n_2 - start2)) b_15 b_16 b_17 fun v23 =>
           r0 v23
          else
           r0 data11
         else
          r0 data11
        else
        bif decide (mid2 < (w64 (n_2 - start2))) then
         bif decide ((w64 (n_2 - start2)) < b_15) then
          aQ k data11 mid2 (w64 (n_2 - start2)) b_15 b_16 b_17 fun v24 =>
          r0 v24
         else
          r0 data11
        else
         r0 data11
       else
       bif decide (a5 < start2) then
        bif decide (start2 < mid2) then
         aQ k data11 a5 start2 mid2 b_16 b_17 fun v25 =>
         bif decide (mid2 < (w64 (n_2 - start2))) then
          bif decide ((w64 (n_2 - start2)) < b_15) then
           aQ k v25 mid2 (w64 (n_2 - start2)) b_15 b_16 b_17 fun v26 =>
           r0 v26
          else
           r0 v25
         else
          r0 v25
        else
        bif decide (mid2 < (w64 (n_2 - start2))) then
         bif decide ((w64 (n_2 - start2)) < b_15) then
          aQ k data11 mid2 (w64 (n_2 - start2)) b_15 b_16 b_17 fun v27 =>
          r0 v27
         else
          r0 data11
        else
         r0 data11
       else
       bif decide (mid2 < (w64 (n_2 - start2))) then
        bif decide ((w64 (n_2 - start2)) < b_15) then
         aQ k data11 mid2 (w64 (n_2 - start2)) b_15 b_16 b_17 fun v28 =>
         r0 v28
        else
         r0 data11
       else
        r0 data11)
     r0
def bW : Nat → Int → Int → Int → Int → List Int → Int → Int → (Int → Int → Int → Int → List Int → Int → Int → Option α) → (List Int → Option α) → Option α
 | 0, _, _, _, _, _, _, _, _, _ => none
 | k + 1, n_1, blockSize, a, b_, data1, b_1, b_2, b0, r0 =>
   bif decide (b_ ≤ n_1) then
    ax k data1 a b_ b_1 b_2 fun v =>
    bW k n_1 blockSize b_ (w64 (b_ + blockSize)) v b_1 b_2 b0 r0
   else
    b0 n_1 blockSize a b_ data1 b_1 b_2
def bZ : Nat → Int → Int → Int → Int → List Int → Int → Int → (Int → Int → Int → Int → List Int → Int → Int → Option α) → (List Int → Option α) → Option α
 | 0, _, _, _, _, _, _, _, _, _ => none
 | k + 1, n_4, blockSize3, a2, b_8, data4, b_9, b_10, b4, r0 =>
   bif decide (b_8 ≤ n_4) then
    aQ k data4 a2 (w64 (a2 + blockSize3)) b_8 b_9 b_10 fun v2 =>
    bZ k n_4 blockSize3 b_8 (w64 (b_8 + (w64 (2 * blockSize3)))) v2 b_9 b_10 b4 r0
   else
    b4 n_4 blockSize3 a2 b_8 data4 b_9 b_10
def aK : Nat → Int → Int → List Int → Int → Int → (Int → Int → List Int → Int → Int → Option α) → (List Int → Option α) → Option α
 | 0, _, _, _, _, _, _, _ => none
 | k + 1, n_3, blockSize2, data3, b_6, b_7, b2, r0 =>
   bif decide (blockSize2 < n_3) then
    bZ k n_3 blockSize2 0 (w64 (2 * blockSize2)) data3 b_6 b_7
     (fun n_5 blockSize4 a3 _ data5 b_12 b_13 =>
       bif decide ((w64 (a3 + blockSize4)) < n_5) then
        aQ k data5 a3 (w64 (a3 + blockSize4)) n_5 b_12 b_13 fun v3 =>
        aK k n_5 (w64 (blockSize4 * 2)) v3 b_12 b_13 b2 r0
       else
        aK k n_5 (w64 (blockSize4 * 2)) data5 b_12 b_13 b2 r0)
     r0
   else
    b2 n_3 blockSize2 data3 b_6 b_7
def fV (k : Nat) (data : List Int) (n_ : Int) (cmp : Int) (cmp1 : Int) (r0 : List Int → Option α) : Option α :=
 bW k n_ 20 0 20 data cmp cmp1
  (fun n_2 blockSize1 a1 _ data2 b_4 b_5 =>
    ax k data2 a1 n_2 b_4 b_5 fun v1 =>
    aK k n_2 blockSize1 v1 b_4 b_5
     (fun _ _ data6 _ _ =>
       r0 data6)
     r0)
  r0
def bY (k : Nat) (x : List Int) (cmp : Int) (cmp1 : Int) (r0 : List Int → Option α) : Option α :=
 fV k x (x.length : Int) cmp cmp1 fun v =>
 r0 v
def lX : Nat → Int → Int → Int → Int → List Int → (Int → Int → Int → Int → List Int → Option α) → (List Int → Option α) → Option α
 | 0, _, _, _, _, _, _, _ => none
 | k + 1, x, x1, p_1, q_1, out, b0, r0 =>
   bif decide (x1 < x) then
    bif decide (((List.length out) + 1) ≤ big) then
     lX k x (w64 (x1 + 1)) p_1 q_1 (out ++ [x1]) b0 r0
    else
     none
   else
    b0 x x1 p_1 q_1 out
def tY (k : Nat) (p_ : Int) (q_ : Int) (n_ : Int) (r0 : List Int → Option α) : Option α :=
 lX k n_ 0 p_ q_ []
  (fun _ _ p_2 q_2 out1 =>
    bY k out1 p_2 q_2 fun v =>
    r0 v)
  r0
def dK : Nat → Int → Int → List Int → List Int → (Int → Int → List Int → List Int → Option α) → (Int → Option α) → Option α
 | 0, _, _, _, _, _, _ => none
 | k + 1, x, x1, s1_1, s2_1, b0, r0 =>
   bif decide (x1 < x) then
    bif (decide (0 ≤ x1) && decide (x1 < (s1_1.length : Int))) then
     (s1_1[x1.toNat]?).bind fun e_ =>
     bif decide ((s2_1.length : Int) ≤ x1) then
      r0 1
     else
     bif (decide (0 ≤ x1) && decide (x1 < (s2_1.length : Int))) then
      (s2_1[x1.toNat]?).bind fun e_1 =>
      gq k e_ e_1 fun v =>
      bif (!decide (v = 0)) then
       r0 v
      else
       dK k x (w64 (x1 + 1)) s1_1 s2_1 b0 r0
     else
      none
    else
     none
   else
    b0 x x1 s1_1 s2_1
def jK (k : Nat) (s1_ : List Int) (s2_ : List Int) (r0 : Int → Option α) : Option α :=
 dK k (s1_.length : Int) 0 s1_ s2_
  (fun _ _ s1_2 s2_2 =>
    bif decide ((s1_2.length : Int) < (s2_2.length : Int)) then
     r0 (-1)
    else
     r0 0)
  r0
def jZ : Nat → Int → List Int → List Int → (Int → List Int → List Int → Option α) → (Bool → Option α) → Option α
 | 0, _, _, _, _, _ => none
 | k + 1, i, a1, b_1, b0, r0 =>
   bif decide (i < (a1.length : Int)) then
    bif (decide (0 ≤ i) && decide (i < (a1.length : Int))) then
     (a1[i.toNat]?).bind fun e_ =>
     bif (decide (0 ≤ i) && decide (i < (b_1.length : Int))) then
      (b_1[i.toNat]?).bind fun e_1 =>
      bif (!decide (e_ = e_1)) then
       r0 false
      else
       jZ k (w64 (i + 1)) a1 b_1 b0 r0
     else
      none
    else
     none
   else
    b0 i a1 b_1
def uz (k : Nat) (a : List Int) (b_ : List Int) (r0 : Bool → Option α) : Option α :=
 bif (!decide ((a.length : Int) = (b_.length : Int))) then
  r0 false
 else
  jZ k 0 a b_
   (fun _ _ _ =>
     r0 true)
   r0
def iy : Nat → Int → Int → List Int → (Int → Int → List Int → Option α) → (Int → Option α) → Option α
 | 0, _, _, _, _, _ => none
 | k + 1, k_1, i, a1, b0, r0 =>
   bif decide (i < (a1.length : Int)) then
    bif (decide (0 ≤ i) && decide (i < (a1.length : Int))) then
     (a1[i.toNat]?).bind fun e_ =>
     bif (!decide (e_ = k_1)) then
      r0 (-1)
     else
      iy k (w64 (k_1 + 1)) (w64 (i + 1)) a1 b0 r0
    else
     none
   else
    b0 k_1 i a1
def rV (k : Nat) (a : List Int) (k_ : Int) (r0 : Int → Option α) : Option α :=
 iy k k_ 0 a
  (fun k_2 _ _ =>
    r0 k_2)
  r0
def dY : Nat → Int → Nat → Nat → Int → List Int → (Int → Nat → Nat → Int → List Int → Option α) → (List Int → Option α) → Option α
 | 0, _, _, _, _, _, _, _ => none
 | k + 1, k_1, s2_, s2_1, k2_, s2, b2, r0 =>
   bif decide (k2_ < ((s2_1 : Nat) : Int)) then
    bif (decide (0 ≤ k2_) && decide (k2_ < ((s2_1 : Nat) : Int))) then
     (s2[(jq s2_ k2_.toNat 1)]?).bind fun e_2 =>
     bif (decide (0 ≤ (w64 (k2_ - 1))) && decide ((w64 (k2_ - 1)) < ((s2_1 : Nat) : Int))) then
      (s2[(jq s2_ ((w64 (k2_ - 1)).toNat) 1)]?).bind fun e_3 =>
      bif (!decide (e_2 = e_3)) then
       bif (decide (0 ≤ k2_) && decide (k2_ < ((s2_1 : Nat) : Int))) then
        (s2[(jq s2_ k2_.toNat 1)]?).bind fun e_4 =>
        bif (decide (0 ≤ k_1) && decide (k_1 < (s2.length : Int))) then
         (s2[k_1.toNat]?).bind fun _ =>
         dY k (w64 (k_1 + 1)) s2_ s2_1 (w64 (k2_ + 1)) (List.set s2 k_1.toNat e_4) b2 r0
        else
         none
       else
        none
      else
       dY k k_1 s2_ s2_1 (w64 (k2_ + 1)) s2 b2 r0
     else
      none
    else
     none
   else
    b2 k_1 s2_ s2_1 k2_ s2
def fZ : Nat → Int → List Int → (Int → List Int → Option α) → (List Int → Option α) → Option α
 | 0, _, _, _, _ => none
 | k + 1, k_, s1, b0, r0 =>
   bif decide (k_ < (s1.length : Int)) then
    bif (decide (0 ≤ k_) && decide (k_ < (s1.length : Int))) then
     (s1[k_.toNat]?).bind fun e_ =>
     bif (decide (0 ≤ (w64 (k_ - 1))) && decide ((w64 (k_ - 1)) < (s1.length : Int))) then
      (s1[(w64 (k_ - 1)).toNat]?).bind fun e_1 =>
      bif decide (e_ = e_1) then
       bif (decide (0 ≤ k_) && decide (k_ ≤ (s1.length : Int))) then
        dY k k_ k_.toNat ((List.length s1) - k_.toNat) 1 s1
         (fun k_2 _ _ _ s3 =>
           bif (decide (0 ≤ k_2) && decide (k_2 ≤ (s3.length : Int))) then
            bif (decide (0 ≤ k_2) && decide (k_2 ≤ (((List.length (((List.take k_2.toNat s3) ++ (List.replicate ((List.length s3) - k_2.toNat) 0)) ++ (List.drop (k_2.toNat + ((List.length s3) - k_2.toNat)) s3))) : Nat) : Int))) then
             r0 (List.take (k_2.toNat - 0) (((List.take k_2.toNat s3) ++ (List.replicate ((List.length s3) - k_2.toNat) 0)) ++ (List.drop (k_2.toNat + ((List.length s3) - k_2.toNat)) s3)))
            else
             none
           else
            none)
         r0
       else
        none
      else
       fZ k (w64 (k_ + 1)) s1 b0 r0
     else
      none
    else
     none
   else
    b0 k_ s1
def jV (k : Nat) (s : List Int) (r0 : List Int → Option α) : Option α :=
 bif decide ((s.length : Int) < 2) then
  r0 s
 else
  fZ k 1 s
   (fun _ s4 =>
     r0 s4)
   r0
def kY : Nat → Int → Int → List Int → (Int → Int → List Int → Option α) → (Int → List Int → Option α) → Option α
 | 0, _, _, _, _, _ => none
 | k + 1, k_1, i, a1, b0, r0 =>
   bif decide (i < (a1.length : Int)) then
    bif (decide (0 ≤ i) && decide (i < (a1.length : Int))) then
     (a1[i.toNat]?).bind fun _ =>
     kY k (w64 (k_1 + 1)) (w64 (i + 1)) (List.set a1 i.toNat k_1) b0 r0
    else
     none
   else
    b0 k_1 i a1
def rY (k : Nat) (a : List Int) (k_ : Int) (r0 : Int → List Int → Option α) : Option α :=
 kY k k_ 0 a
  (fun k_2 _ a2 =>
    r0 k_2 a2)
  r0
def pV (k : Nat) (n_ : Int) (x : Int) (r0 : Int → Option α) : Option α :=
 bif decide (n_ = 0) then
  none
 else
 bif decide (n_ = 0) then
  none
 else
  r0 (Int.tmod (w64 ((Int.tmod x n_) + n_)) n_)
def qQ (k : Nat) (list : List Int) (r0 : List Int → Option α) : Option α :=
 bif decide ((0 + (List.length list)) ≤ big) then
  r0 ([] ++ list)
 else
  none
def jv : Nat → Int → Int → Int → Int → Int → Int → List Int → (Int → Int → Int → Int → Int → Int → List Int → Option α) → (List Int → Option α) → Option α
 | 0, _, _, _, _, _, _, _, _, _ => none
 | k + 1, p_2, q_2, n_2, k_1, own, at_, out1, b2, r0 =>
   bif decide (0 < at_) then
    bif (decide (0 ≤ (w64 (at_ - 1))) && decide ((w64 (at_ - 1)) < (out1.length : Int))) then
     (out1[(w64 (at_ - 1)).toNat]?).bind fun e_ =>
     pV k q_2 (w64 (e_ * p_2)) fun v1 =>
     bif decide (own < v1) then
      jv k p_2 q_2 n_2 k_1 own (w64 (at_ - 1)) out1 b2 r0
     else
      b2 p_2 q_2 n_2 k_1 own at_ out1
    else
     none
   else
    b2 p_2 q_2 n_2 k_1 own at_ out1
def jw : Nat → Int → Int → Int → Int → List Int → (Int → Int → Int → Int → List Int → Option α) → (List Int → Option α) → Option α
 | 0, _, _, _, _, _, _, _ => none
 | k + 1, p_1, q_1, n_1, k_, out, b0, r0 =>
   bif decide (k_ < n_1) then
    pV k q_1 (w64 (k_ * p_1)) fun v =>
    jv k p_1 q_1 n_1 k_ v (out.length : Int) out
     (fun p_3 q_3 n_3 k_2 _ at_1 out2 =>
       bif (decide (0 ≤ at_1) && decide (at_1 ≤ (out2.length : Int))) then
        bif decide ((1 + (List.length (List.take ((List.length out2) - at_1.toNat) (List.drop at_1.toNat out2)))) ≤ big) then
         bif (decide (0 ≤ at_1) && decide (at_1 ≤ (out2.length : Int))) then
          qQ k (List.take (at_1.toNat - 0) (List.drop 0 out2)) fun v2 =>
          bif decide (((List.length v2) + (List.length ([k_2] ++ (List.take ((List.length out2) - at_1.toNat) (List.drop at_1.toNat out2))))) ≤ big) then
           jw k p_3 q_3 n_3 (w64 (k_2 + 1)) (v2 ++ ([k_2] ++ (List.take ((List.length out2) - at_1.toNat) (List.drop at_1.toNat out2)))) b0 r0
          else
           none
         else
          none
        else
         none
       else
        none)
     r0
   else
    b0 p_1 q_1 n_1 k_ out
def uj (k : Nat) (p_ : Int) (q_ : Int) (n_ : Int) (r0 : List Int → Option α) : Option α :=
 jw k p_ q_ n_ 0 []
  (fun _ _ _ _ out3 =>
    r0 out3)
  r0
end Go.Sh
