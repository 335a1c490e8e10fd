/- The program's functions, read without memory: printed by a program of ours. -/
import Derived.Test.YtbhejffnpemdhaaMaB
namespace Go.Sh
open Go Go.Ev

/-- loop.example/g01297/spec.l01In -/
def spec_l01In {α : Type} (k : Nat) (n_ : Int) (low : Int) (high : Int) (r0 : Bool → Option α) : Option α :=
  bif decide (low ≤ n_) then
    r0 (decide (n_ ≤ high))
  else
    r0 false

/-- loop.example/g01297/spec.l01Fits -/
def spec_l01Fits {α : Type} (k : Nat) (x : Int) (r0 : Bool → Option α) : Option α :=
  spec_l01In k x (-1000000) 1000000 fun v =>
  r0 v

/-- loop.example/g01297/spec.l10Ratio -/
def spec_l10Ratio {α : Type} (k : Nat) (p_ : Int) (q_ : Int) (low : Int) (r0 : Bool → Option α) : Option α :=
  spec_l01Fits k p_ fun v =>
  bif v then
    spec_l01In k q_ low 1000000 fun v1 =>
    r0 v1
  else
    r0 false

/-- loop.example/g01297/spec.l01Rest -/
def spec_l01Rest {α : Type} (k : Nat) (n_ : Int) (x : Int) (r0 : Int → Option α) : Option α :=
  bif decide (n_ = 0) then
    none
  else
  bif decide (n_ = 0) then
    none
  else
    r0 (Int.tmod (w64 ((Int.tmod x n_) + n_)) n_)

/-- loop.example/g01297/spec.l01Own -/
def spec_l01Own {α : Type} (k : Nat) (list : List Int) (r0 : List Int → Option α) : Option α :=
  bif decide ((0 + (List.length list)) ≤ big) then
    r0 ([] ++ list)
  else
    none

def spec_l10Order_l6 {α : Type} : Nat → Int → Int → Int → Int → Int → Int → List Int → (Int → Int → Int → Int → Int → Int → List Int → Option α) → (List Int → Option α) → Option α
  | 0, _, _, _, _, _, _, _, _, _ => none
  | k + 1, p_2, q_2, n_2, k_1, own, at_, out1, b2, r0 =>
    bif decide (0 < at_) then
      bif (decide (0 ≤ (w64 (at_ - 1))) && decide ((w64 (at_ - 1)) < (((List.length out1) : Nat) : Int))) then
        (out1[(w64 (at_ - 1)).toNat]?).bind fun e_ =>
        spec_l01Rest k q_2 (w64 (e_ * p_2)) fun v1 =>
        bif decide (own < v1) then
          spec_l10Order_l6 k p_2 q_2 n_2 k_1 own (w64 (at_ - 1)) out1 b2 r0
        else
          b2 p_2 q_2 n_2 k_1 own at_ out1
      else
        none
    else
      b2 p_2 q_2 n_2 k_1 own at_ out1

def spec_l10Order_l3 {α : Type} : Nat → Int → Int → Int → Int → List Int → (Int → Int → Int → Int → List Int → Option α) → (List Int → Option α) → Option α
  | 0, _, _, _, _, _, _, _ => none
  | k + 1, p_1, q_1, n_1, k_, out, b0, r0 =>
    bif decide (k_ < n_1) then
      spec_l01Rest k q_1 (w64 (k_ * p_1)) fun v =>
      spec_l10Order_l6 k p_1 q_1 n_1 k_ v (((List.length out) : Nat) : Int) out
        (fun p_3 q_3 n_3 k_2 _ at_1 out2 =>
          bif (decide (0 ≤ at_1) && decide (at_1 ≤ (((List.length out2) : Nat) : Int))) then
            bif decide ((1 + (List.length (List.take ((List.length out2) - at_1.toNat) (List.drop at_1.toNat out2)))) ≤ big) then
              bif (decide (0 ≤ at_1) && decide (at_1 ≤ (((List.length out2) : Nat) : Int))) then
                spec_l01Own k (List.take (at_1.toNat - 0) (List.drop 0 out2)) fun v2 =>
                bif decide (((List.length v2) + (List.length ([k_2] ++ (List.take ((List.length out2) - at_1.toNat) (List.drop at_1.toNat out2))))) ≤ big) then
                  spec_l10Order_l3 k p_3 q_3 n_3 (w64 (k_2 + 1)) (v2 ++ ([k_2] ++ (List.take ((List.length out2) - at_1.toNat) (List.drop at_1.toNat out2)))) b0 r0
                else
                  none
              else
                none
            else
              none
          else
            none)
        r0
    else
      b0 p_1 q_1 n_1 k_ out

/-- loop.example/g01297/spec.l10Order -/
def spec_l10Order {α : Type} (k : Nat) (p_ : Int) (q_ : Int) (n_ : Int) (r0 : List Int → Option α) : Option α :=
  spec_l10Order_l3 k p_ q_ n_ 0 []
    (fun _ _ _ _ out3 =>
      r0 out3)
    r0

/-- loop.example/g01297/spec.OrderOfMultiples -/
def spec_OrderOfMultiples {α : Type} (k : Nat) (p_ : Int) (q_ : Int) (n_ : Int) (r0 : Int → Option α) (r1 : List Int → Int → Option α) : Option α :=
  spec_l10Ratio k p_ q_ 2 fun v =>
  bif (!v) then
    r0 2
  else
    spec_l01In k n_ 1 500 fun v1 =>
    bif (!v1) then
      r0 2
    else
      spec_l10Order k p_ q_ n_ fun v2 =>
      r1 v2 0

/-- loop.example/g01297/impl.in -/
def impl_in {α : Type} (k : Nat) (n_ : Int) (low : Int) (high : Int) (r0 : Bool → Option α) : Option α :=
  bif decide (low ≤ n_) then
    r0 (decide (n_ ≤ high))
  else
    r0 false

/-- loop.example/g01297/impl.isCoord -/
def impl_isCoord {α : Type} (k : Nat) (n_ : Int) (r0 : Bool → Option α) : Option α :=
  impl_in k n_ (-1000000) 1000000 fun v =>
  r0 v

/-- loop.example/g01297/impl.ratioOk -/
def impl_ratioOk {α : Type} (k : Nat) (p_ : Int) (q_ : Int) (r0 : Bool → Option α) : Option α :=
  impl_isCoord k p_ fun v =>
  bif v then
    impl_in k q_ 1 1000000 fun v1 =>
    r0 v1
  else
    r0 false

/-- loop.example/g01297/impl.placesOk -/
def impl_placesOk {α : Type} (k : Nat) (p_ : Int) (q_ : Int) (r0 : Bool → Option α) : Option α :=
  impl_ratioOk k p_ q_ fun v =>
  bif v then
    r0 (decide (2 ≤ q_))
  else
    r0 false

/-- loop.example/g01297/impl.floor -/
def impl_floor {α : Type} (k : Nat) (a : Int) (b_ : Int) (r0 : Int → Option α) : Option α :=
  bif decide (b_ = 0) then
    none
  else
  bif decide (b_ = 0) then
    none
  else
  bif (!decide ((Int.tmod a b_) = 0)) then
    bif (!(decide (a < 0) == decide (b_ < 0))) then
      r0 (w64 ((w64 (Int.tdiv a b_)) - 1))
    else
      r0 (w64 (Int.tdiv a b_))
  else
    r0 (w64 (Int.tdiv a b_))

/-- loop.example/g01297/impl.mod -/
def impl_mod {α : Type} (k : Nat) (a : Int) (b_ : Int) (r0 : Int → Option α) : Option α :=
  impl_floor k a b_ fun v =>
  r0 (w64 (a - (w64 (b_ * v))))

/-- cmp.isNaN[int64] -/
def cmp_isNaN_int64 {α : Type} (k : Nat) (x : Int) (r0 : Bool → Option α) : Option α :=
  r0 (!decide (x = x))

/-- cmp.Compare[int64] -/
def cmp_Compare_int64 {α : Type} (k : Nat) (x : Int) (y : Int) (r0 : Int → Option α) : Option α :=
  cmp_isNaN_int64 k x fun v =>
  cmp_isNaN_int64 k y fun v1 =>
  bif v then
    bif v1 then
      r0 0
    else
      r0 (-1)
  else
  bif v1 then
    r0 1
  else
  bif decide (x < y) then
    r0 (-1)
  else
  bif decide (y < x) then
    r0 1
  else
    r0 0

/-- loop.example/g01297/impl.multiples$1 -/
def impl_multiples_1_2P_3P {α : Type} (k : Nat) (a : Int) (b_ : Int) (x : Int) (x1 : Int) (r0 : Int → Option α) : Option α :=
  impl_mod k (w64 (a * x)) x1 fun v =>
  impl_mod k (w64 (b_ * x)) x1 fun v1 =>
  cmp_Compare_int64 k v v1 fun v2 =>
  r0 v2

def slices_insertionSortCmpFunc_int64_3F_impl_multiples_1PP_l4 {α : Type} : Nat → Int → Int → Int → Int → List Int → Int → Int → (Int → Int → Int → Int → List Int → Int → Int → Option α) → (List Int → Option α) → Option α
  | 0, _, _, _, _, _, _, _, _, _ => none
  | k + 1, a2, b_4, i1, j, data2, b_5, b_6, b2, r0 =>
    bif decide (a2 < j) then
      bif (decide (0 ≤ j) && decide (j < (((List.length data2) : Nat) : Int))) then
        (data2[j.toNat]?).bind fun e_ =>
        bif (decide (0 ≤ (w64 (j - 1))) && decide ((w64 (j - 1)) < (((List.length data2) : Nat) : Int))) then
          (data2[(w64 (j - 1)).toNat]?).bind fun e_1 =>
          impl_multiples_1_2P_3P k e_ e_1 b_5 b_6 fun v =>
          bif decide (v < 0) then
            bif (decide (0 ≤ (w64 (j - 1))) && decide ((w64 (j - 1)) < (((List.length data2) : Nat) : Int))) then
              (data2[(w64 (j - 1)).toNat]?).bind fun e_2 =>
              bif (decide (0 ≤ j) && decide (j < (((List.length data2) : Nat) : Int))) then
                (data2[j.toNat]?).bind fun e_3 =>
                bif (decide (0 ≤ j) && decide (j < (((List.length data2) : Nat) : Int))) then
                  (data2[j.toNat]?).bind fun _ =>
                  bif (decide (0 ≤ (w64 (j - 1))) && decide ((w64 (j - 1)) < (((List.length (List.set data2 j.toNat e_2)) : Nat) : Int))) then
                    ((List.set data2 j.toNat e_2)[(w64 (j - 1)).toNat]?).bind fun _ =>
                    slices_insertionSortCmpFunc_int64_3F_impl_multiples_1PP_l4 k a2 b_4 i1 (w64 (j - 1)) (List.set (List.set data2 j.toNat e_2) ((w64 (j - 1)).toNat) e_3) b_5 b_6 b2 r0
                  else
                    none
                else
                  none
              else
                none
            else
              none
          else
            b2 a2 b_4 i1 j data2 b_5 b_6
        else
          none
      else
        none
    else
      b2 a2 b_4 i1 j data2 b_5 b_6

def slices_insertionSortCmpFunc_int64_3F_impl_multiples_1PP_l1 {α : Type} : Nat → Int → Int → Int → List Int → Int → Int → (Int → Int → Int → List Int → Int → Int → Option α) → (List Int → Option α) → Option α
  | 0, _, _, _, _, _, _, _, _ => none
  | k + 1, a1, b_1, i, data1, b_2, b_3, b0, r0 =>
    bif decide (i < b_1) then
      slices_insertionSortCmpFunc_int64_3F_impl_multiples_1PP_l4 k a1 b_1 i i data1 b_2 b_3
        (fun a3 b_7 i2 _ data3 b_8 b_9 =>
          slices_insertionSortCmpFunc_int64_3F_impl_multiples_1PP_l1 k a3 b_7 (w64 (i2 + 1)) data3 b_8 b_9 b0 r0)
        r0
    else
      b0 a1 b_1 i data1 b_2 b_3

/-- slices.insertionSortCmpFunc[int64] -/
def slices_insertionSortCmpFunc_int64_3F_impl_multiples_1PP {α : Type} (k : Nat) (data : List Int) (a : Int) (b_ : Int) (cmp : Int) (cmp1 : Int) (r0 : List Int → Option α) : Option α :=
  slices_insertionSortCmpFunc_int64_3F_impl_multiples_1PP_l1 k a b_ (w64 (a + 1)) data cmp cmp1
    (fun _ _ _ data4 _ _ =>
      r0 data4)
    r0

def slices_swapRangeCmpFunc_int64_4F_impl_multiples_1PP_l1 {α : Type} : Nat → Int → Int → Int → Int → List Int → (Int → Int → Int → Int → List Int → Option α) → (List Int → Option α) → Option α
  | 0, _, _, _, _, _, _, _ => none
  | k + 1, a1, b_1, n_1, i, data1, b0, r0 =>
    bif decide (i < n_1) then
      bif (decide (0 ≤ (w64 (b_1 + i))) && decide ((w64 (b_1 + i)) < (((List.length data1) : Nat) : Int))) then
        (data1[(w64 (b_1 + i)).toNat]?).bind fun e_ =>
        bif (decide (0 ≤ (w64 (a1 + i))) && decide ((w64 (a1 + i)) < (((List.length data1) : Nat) : Int))) then
          (data1[(w64 (a1 + i)).toNat]?).bind fun e_1 =>
          bif (decide (0 ≤ (w64 (a1 + i))) && decide ((w64 (a1 + i)) < (((List.length data1) : Nat) : Int))) then
            (data1[(w64 (a1 + i)).toNat]?).bind fun _ =>
            bif (decide (0 ≤ (w64 (b_1 + i))) && decide ((w64 (b_1 + i)) < (((List.length (List.set data1 ((w64 (a1 + i)).toNat) e_)) : Nat) : Int))) then
              ((List.set data1 ((w64 (a1 + i)).toNat) e_)[(w64 (b_1 + i)).toNat]?).bind fun _ =>
              slices_swapRangeCmpFunc_int64_4F_impl_multiples_1PP_l1 k a1 b_1 n_1 (w64 (i + 1)) (List.set (List.set data1 ((w64 (a1 + i)).toNat) e_) ((w64 (b_1 + i)).toNat) e_1) b0 r0
            else
              none
          else
            none
        else
          none
      else
        none
    else
      b0 a1 b_1 n_1 i data1

/-- slices.swapRangeCmpFunc[int64] -/
def slices_swapRangeCmpFunc_int64_4F_impl_multiples_1PP {α : Type} (k : Nat) (data : List Int) (a : Int) (b_ : Int) (n_ : Int) (cmp : Int) (cmp1 : Int) (r0 : List Int → Option α) : Option α :=
  slices_swapRangeCmpFunc_int64_4F_impl_multiples_1PP_l1 k a b_ n_ 0 data
    (fun _ _ _ _ data2 =>
      r0 data2)
    r0

def slices_rotateCmpFunc_int64_4F_impl_multiples_1PP_l2 {α : Type} : Nat → Int → Int → Int → List Int → Int → Int → (Int → Int → Int → List Int → Int → Int → Option α) → (List Int → Option α) → Option α
  | 0, _, _, _, _, _, _, _, _ => none
  | k + 1, m1, i, j, data1, b_1, b_2, b0, r0 =>
    bif (!decide (i = j)) then
      bif decide (j < i) then
        slices_swapRangeCmpFunc_int64_4F_impl_multiples_1PP k data1 (w64 (m1 - i)) m1 j b_1 b_2 fun v =>
        slices_rotateCmpFunc_int64_4F_impl_multiples_1PP_l2 k m1 (w64 (i - j)) j v b_1 b_2 b0 r0
      else
        slices_swapRangeCmpFunc_int64_4F_impl_multiples_1PP k data1 (w64 (m1 - i)) (w64 ((w64 (m1 + j)) - i)) i b_1 b_2 fun v1 =>
        slices_rotateCmpFunc_int64_4F_impl_multiples_1PP_l2 k m1 i (w64 (j - i)) v1 b_1 b_2 b0 r0
    else
      b0 m1 i j data1 b_1 b_2

/-- slices.rotateCmpFunc[int64] -/
def slices_rotateCmpFunc_int64_4F_impl_multiples_1PP {α : Type} (k : Nat) (data : List Int) (a : Int) (m : Int) (b_ : Int) (cmp : Int) (cmp1 : Int) (r0 : List Int → Option α) : Option α :=
  slices_rotateCmpFunc_int64_4F_impl_multiples_1PP_l2 k m (w64 (m - a)) (w64 (b_ - m)) data cmp cmp1
    (fun m2 i1 _ data2 b_3 b_4 =>
      slices_swapRangeCmpFunc_int64_4F_impl_multiples_1PP k data2 (w64 (m2 - i1)) m2 i1 b_3 b_4 fun v2 =>
      r0 v2)
    r0

def slices_symMergeCmpFunc_int64_4F_impl_multiples_1PP_l3 {α : Type} : Nat → Int → Int → Int → List Int → Int → Int → (Int → Int → Int → List Int → Int → Int → Option α) → (List Int → Option α) → Option α
  | 0, _, _, _, _, _, _, _, _ => none
  | k + 1, a1, i, j, data1, b_1, b_2, b0, r0 =>
    bif decide (i < j) then
      bif (decide (0 ≤ (w64 (Int.fdiv (IntKind.wrap .u64 (w64 (i + j))) (2 ^ 1)))) && decide ((w64 (Int.fdiv (IntKind.wrap .u64 (w64 (i + j))) (2 ^ 1))) < (((List.length data1) : Nat) : Int))) then
        (data1[(w64 (Int.fdiv (IntKind.wrap .u64 (w64 (i + j))) (2 ^ 1))).toNat]?).bind fun e_ =>
        bif (decide (0 ≤ a1) && decide (a1 < (((List.length data1) : Nat) : Int))) then
          (data1[a1.toNat]?).bind fun e_1 =>
          impl_multiples_1_2P_3P k e_ e_1 b_1 b_2 fun v =>
          bif decide (v < 0) then
            slices_symMergeCmpFunc_int64_4F_impl_multiples_1PP_l3 k a1 (w64 ((w64 (Int.fdiv (IntKind.wrap .u64 (w64 (i + j))) (2 ^ 1))) + 1)) j data1 b_1 b_2 b0 r0
          else
            slices_symMergeCmpFunc_int64_4F_impl_multiples_1PP_l3 k a1 i (w64 (Int.fdiv (IntKind.wrap .u64 (w64 (i + j))) (2 ^ 1))) data1 b_1 b_2 b0 r0
        else
          none
      else
        none
    else
      b0 a1 i j data1 b_1 b_2

def slices_symMergeCmpFunc_int64_4F_impl_multiples_1PP_l9 {α : Type} : Nat → Int → Int → List Int → (Int → Int → List Int → Option α) → (List Int → Option α) → Option α
  | 0, _, _, _, _, _ => none
  | k + 1, i2, k_, data3, b2, r0 =>
    bif decide (k_ < (w64 (i2 - 1))) then
      bif (decide (0 ≤ (w64 (k_ + 1))) && decide ((w64 (k_ + 1)) < (((List.length data3) : Nat) : Int))) then
        (data3[(w64 (k_ + 1)).toNat]?).bind fun e_2 =>
        bif (decide (0 ≤ k_) && decide (k_ < (((List.length data3) : Nat) : Int))) then
          (data3[k_.toNat]?).bind fun e_3 =>
          bif (decide (0 ≤ k_) && decide (k_ < (((List.length data3) : Nat) : Int))) then
            (data3[k_.toNat]?).bind fun _ =>
            bif (decide (0 ≤ (w64 (k_ + 1))) && decide ((w64 (k_ + 1)) < (((List.length (List.set data3 k_.toNat e_2)) : Nat) : Int))) then
              ((List.set data3 k_.toNat e_2)[(w64 (k_ + 1)).toNat]?).bind fun _ =>
              slices_symMergeCmpFunc_int64_4F_impl_multiples_1PP_l9 k i2 (w64 (k_ + 1)) (List.set (List.set data3 k_.toNat e_2) ((w64 (k_ + 1)).toNat) e_3) b2 r0
            else
              none
          else
            none
        else
          none
      else
        none
    else
      b2 i2 k_ data3

def slices_symMergeCmpFunc_int64_4F_impl_multiples_1PP_l15 {α : Type} : Nat → Int → Int → Int → List Int → Int → Int → (Int → Int → Int → List Int → Int → Int → Option α) → (List Int → Option α) → Option α
  | 0, _, _, _, _, _, _, _, _ => none
  | k + 1, m1, i4, j2, data5, b_5, b_6, b4, r0 =>
    bif decide (i4 < j2) then
      bif (decide (0 ≤ m1) && decide (m1 < (((List.length data5) : Nat) : Int))) then
        (data5[m1.toNat]?).bind fun e_4 =>
        bif (decide (0 ≤ (w64 (Int.fdiv (IntKind.wrap .u64 (w64 (i4 + j2))) (2 ^ 1)))) && decide ((w64 (Int.fdiv (IntKind.wrap .u64 (w64 (i4 + j2))) (2 ^ 1))) < (((List.length data5) : Nat) : Int))) then
          (data5[(w64 (Int.fdiv (IntKind.wrap .u64 (w64 (i4 + j2))) (2 ^ 1))).toNat]?).bind fun e_5 =>
          impl_multiples_1_2P_3P k e_4 e_5 b_5 b_6 fun v1 =>
          bif (!decide (v1 < 0)) then
            slices_symMergeCmpFunc_int64_4F_impl_multiples_1PP_l15 k m1 (w64 ((w64 (Int.fdiv (IntKind.wrap .u64 (w64 (i4 + j2))) (2 ^ 1))) + 1)) j2 data5 b_5 b_6 b4 r0
          else
            slices_symMergeCmpFunc_int64_4F_impl_multiples_1PP_l15 k m1 i4 (w64 (Int.fdiv (IntKind.wrap .u64 (w64 (i4 + j2))) (2 ^ 1))) data5 b_5 b_6 b4 r0
        else
          none
      else
        none
    else
      b4 m1 i4 j2 data5 b_5 b_6

def slices_symMergeCmpFunc_int64_4F_impl_multiples_1PP_l21 {α : Type} : Nat → Int → Int → List Int → (Int → Int → List Int → Option α) → (List Int → Option α) → Option α
  | 0, _, _, _, _, _ => none
  | k + 1, i6, k_2, data7, b6, r0 =>
    bif decide (i6 < k_2) then
      bif (decide (0 ≤ (w64 (k_2 - 1))) && decide ((w64 (k_2 - 1)) < (((List.length data7) : Nat) : Int))) then
        (data7[(w64 (k_2 - 1)).toNat]?).bind fun e_6 =>
        bif (decide (0 ≤ k_2) && decide (k_2 < (((List.length data7) : Nat) : Int))) then
          (data7[k_2.toNat]?).bind fun e_7 =>
          bif (decide (0 ≤ k_2) && decide (k_2 < (((List.length data7) : Nat) : Int))) then
            (data7[k_2.toNat]?).bind fun _ =>
            bif (decide (0 ≤ (w64 (k_2 - 1))) && decide ((w64 (k_2 - 1)) < (((List.length (List.set data7 k_2.toNat e_6)) : Nat) : Int))) then
              ((List.set data7 k_2.toNat e_6)[(w64 (k_2 - 1)).toNat]?).bind fun _ =>
              slices_symMergeCmpFunc_int64_4F_impl_multiples_1PP_l21 k i6 (w64 (k_2 - 1)) (List.set (List.set data7 k_2.toNat e_6) ((w64 (k_2 - 1)).toNat) e_7) b6 r0
            else
              none
          else
            none
        else
          none
      else
        none
    else
      b6 i6 k_2 data7

def slices_symMergeCmpFunc_int64_4F_impl_multiples_1PP_l33 {α : Type} : Nat → Int → Int → Int → Int → Int → Int → Int → Int → List Int → Int → Int → (Int → Int → Int → Int → Int → Int → Int → Int → List Int → Int → Int → Option α) → (List Int → Option α) → Option α
  | 0, _, _, _, _, _, _, _, _, _, _, _, _, _ => none
  | k + 1, a3, m3, b_9, mid, n_, start, r_, p_, data9, b_10, b_11, b8, r0 =>
    bif decide (start < r_) then
      bif (decide (0 ≤ (w64 (p_ - (w64 (Int.fdiv (IntKind.wrap .u64 (w64 (start + r_))) (2 ^ 1)))))) && decide ((w64 (p_ - (w64 (Int.fdiv (IntKind.wrap .u64 (w64 (start + r_))) (2 ^ 1))))) < (((List.length data9) : Nat) : Int))) then
        (data9[(w64 (p_ - (w64 (Int.fdiv (IntKind.wrap .u64 (w64 (start + r_))) (2 ^ 1))))).toNat]?).bind fun e_8 =>
        bif (decide (0 ≤ (w64 (Int.fdiv (IntKind.wrap .u64 (w64 (start + r_))) (2 ^ 1)))) && decide ((w64 (Int.fdiv (IntKind.wrap .u64 (w64 (start + r_))) (2 ^ 1))) < (((List.length data9) : Nat) : Int))) then
          (data9[(w64 (Int.fdiv (IntKind.wrap .u64 (w64 (start + r_))) (2 ^ 1))).toNat]?).bind fun e_9 =>
          impl_multiples_1_2P_3P k e_8 e_9 b_10 b_11 fun v2 =>
          bif (!decide (v2 < 0)) then
            slices_symMergeCmpFunc_int64_4F_impl_multiples_1PP_l33 k a3 m3 b_9 mid n_ (w64 ((w64 (Int.fdiv (IntKind.wrap .u64 (w64 (start + r_))) (2 ^ 1))) + 1)) r_ p_ data9 b_10 b_11 b8 r0
          else
            slices_symMergeCmpFunc_int64_4F_impl_multiples_1PP_l33 k a3 m3 b_9 mid n_ start (w64 (Int.fdiv (IntKind.wrap .u64 (w64 (start + r_))) (2 ^ 1))) p_ data9 b_10 b_11 b8 r0
        else
          none
      else
        none
    else
      b8 a3 m3 b_9 mid n_ start r_ p_ data9 b_10 b_11

/-- slices.symMergeCmpFunc[int64] -/
def slices_symMergeCmpFunc_int64_4F_impl_multiples_1PP {α : Type} : Nat → List Int → Int → Int → Int → Int → Int → (List Int → Option α) → Option α
  | 0, _, _, _, _, _, _, _ => none
  | k + 1, data, a, m, b_, cmp, cmp1, r0 =>
    bif decide ((w64 (m - a)) = 1) then
      slices_symMergeCmpFunc_int64_4F_impl_multiples_1PP_l3 k a m b_ data cmp cmp1
        (fun a2 i1 _ data2 _ _ =>
          slices_symMergeCmpFunc_int64_4F_impl_multiples_1PP_l9 k i1 a2 data2
            (fun _ _ data4 =>
              r0 data4)
            r0)
        r0
    else
    bif decide ((w64 (b_ - m)) = 1) then
      slices_symMergeCmpFunc_int64_4F_impl_multiples_1PP_l15 k m a m data cmp cmp1
        (fun m2 i5 _ data6 _ _ =>
          slices_symMergeCmpFunc_int64_4F_impl_multiples_1PP_l21 k i5 m2 data6
            (fun _ _ data8 =>
              r0 data8)
            r0)
        r0
    else
    bif decide ((w64 (Int.fdiv (IntKind.wrap .u64 (w64 (a + b_))) (2 ^ 1))) < m) then
      slices_symMergeCmpFunc_int64_4F_impl_multiples_1PP_l33 k a m b_ (w64 (Int.fdiv (IntKind.wrap .u64 (w64 (a + b_))) (2 ^ 1))) (w64 ((w64 (Int.fdiv (IntKind.wrap .u64 (w64 (a + b_))) (2 ^ 1))) + m)) (w64 ((w64 ((w64 (Int.fdiv (IntKind.wrap .u64 (w64 (a + b_))) (2 ^ 1))) + m)) - b_)) (w64 (Int.fdiv (IntKind.wrap .u64 (w64 (a + b_))) (2 ^ 1))) (w64 ((w64 ((w64 (Int.fdiv (IntKind.wrap .u64 (w64 (a + b_))) (2 ^ 1))) + m)) - 1)) data cmp cmp1
        (fun a4 m4 b_12 mid1 n_1 start1 _ _ data10 b_13 b_14 =>
          bif decide (start1 < m4) then
            bif decide (m4 < (w64 (n_1 - start1))) then
              slices_rotateCmpFunc_int64_4F_impl_multiples_1PP k data10 start1 m4 (w64 (n_1 - start1)) b_13 b_14 fun v3 =>
              bif decide (a4 < start1) then
                bif decide (start1 < mid1) then
                  slices_symMergeCmpFunc_int64_4F_impl_multiples_1PP k v3 a4 start1 mid1 b_13 b_14 fun v4 =>
                  bif decide (mid1 < (w64 (n_1 - start1))) then
                    bif decide ((w64 (n_1 - start1)) < b_12) then
                      slices_symMergeCmpFunc_int64_4F_impl_multiples_1PP k v4 mid1 (w64 (n_1 - start1)) b_12 b_13 b_14 fun v5 =>
                      r0 v5
                    else
                      r0 v4
                  else
                    r0 v4
                else
                bif decide (mid1 < (w64 (n_1 - start1))) then
                  bif decide ((w64 (n_1 - start1)) < b_12) then
                    slices_symMergeCmpFunc_int64_4F_impl_multiples_1PP k v3 mid1 (w64 (n_1 - start1)) b_12 b_13 b_14 fun v6 =>
                    r0 v6
                  else
                    r0 v3
                else
                  r0 v3
              else
              bif decide (mid1 < (w64 (n_1 - start1))) then
                bif decide ((w64 (n_1 - start1)) < b_12) then
                  slices_symMergeCmpFunc_int64_4F_impl_multiples_1PP k v3 mid1 (w64 (n_1 - start1)) b_12 b_13 b_14 fun v7 =>
                  r0 v7
                else
                  r0 v3
              else
                r0 v3
            else
            bif decide (a4 < start1) then
              bif decide (start1 < mid1) then
                slices_symMergeCmpFunc_int64_4F_impl_multiples_1PP k data10 a4 start1 mid1 b_13 b_14 fun v8 =>
                bif decide (mid1 < (w64 (n_1 - start1))) then
                  bif decide ((w64 (n_1 - start1)) < b_12) then
                    slices_symMergeCmpFunc_int64_4F_impl_multiples_1PP k v8 mid1 (w64 (n_1 - start1)) b_12 b_13 b_14 fun v9 =>
                    r0 v9
                  else
                    r0 v8
                else
                  r0 v8
              else
              bif decide (mid1 < (w64 (n_1 - start1))) then
                bif decide ((w64 (n_1 - start1)) < b_12) then
                  slices_symMergeCmpFunc_int64_4F_impl_multiples_1PP k data10 mid1 (w64 (n_1 - start1)) b_12 b_13 b_14 fun v10 =>
                  r0 v10
                else
                  r0 data10
              else
                r0 data10
            else
            bif decide (mid1 < (w64 (n_1 - start1))) then
              bif decide ((w64 (n_1 - start1)) < b_12) then
                slices_symMergeCmpFunc_int64_4F_impl_multiples_1PP k data10 mid1 (w64 (n_1 - start1)) b_12 b_13 b_14 fun v11 =>
                r0 v11
              else
                r0 data10
            else
              r0 data10
          else
          bif decide (a4 < start1) then
            bif decide (start1 < mid1) then
              slices_symMergeCmpFunc_int64_4F_impl_multiples_1PP k data10 a4 start1 mid1 b_13 b_14 fun v12 =>
              bif decide (mid1 < (w64 (n_1 - start1))) then
                bif decide ((w64 (n_1 - start1)) < b_12) then
                  slices_symMergeCmpFunc_int64_4F_impl_multiples_1PP k v12 mid1 (w64 (n_1 - start1)) b_12 b_13 b_14 fun v13 =>
                  r0 v13
                else
                  r0 v12
              else
                r0 v12
            else
            bif decide (mid1 < (w64 (n_1 - start1))) then
              bif decide ((w64 (n_1 - start1)) < b_12) then
                slices_symMergeCmpFunc_int64_4F_impl_multiples_1PP k data10 mid1 (w64 (n_1 - start1)) b_12 b_13 b_14 fun v14 =>
                r0 v14
              else
                r0 data10
            else
              r0 data10
          else
          bif decide (mid1 < (w64 (n_1 - start1))) then
            bif decide ((w64 (n_1 - start1)) < b_12) then
              slices_symMergeCmpFunc_int64_4F_impl_multiples_1PP k data10 mid1 (w64 (n_1 - start1)) b_12 b_13 b_14 fun v15 =>
              r0 v15
            else
              r0 data10
          else
            r0 data10)
        r0
    else
      slices_symMergeCmpFunc_int64_4F_impl_multiples_1PP_l33 k a m b_ (w64 (Int.fdiv (IntKind.wrap .u64 (w64 (a + b_))) (2 ^ 1))) (w64 ((w64 (Int.fdiv (IntKind.wrap .u64 (w64 (a + b_))) (2 ^ 1))) + m)) a m (w64 ((w64 ((w64 (Int.fdiv (IntKind.wrap .u64 (w64 (a + b_))) (2 ^ 1))) + m)) - 1)) data cmp cmp1
        (fun a5 m5 b_15 mid2 n_2 start2 _ _ data11 b_16 b_17 =>
          bif decide (start2 < m5) then
            bif decide (m5 < (w64 (n_2 - start2))) then
              slices_rotateCmpFunc_int64_4F_impl_multiples_1PP k data11 start2 m5 (w64 (n_2 - start2)) b_16 b_17 fun v16 =>
              bif decide (a5 < start2) then
                bif decide (start2 < mid2) then
                  slices_symMergeCmpFunc_int64_4F_impl_multiples_1PP k v16 a5 start2 mid2 b_16 b_17 fun v17 =>
                  bif decide (mid2 < (w64 (n_2 - start2))) then
                    bif decide ((w64 (n_2 - start2)) < b_15) then
                      slices_symMergeCmpFunc_int64_4F_impl_multiples_1PP k v17 mid2 (w64 (n_2 - start2)) b_15 b_16 b_17 fun v18 =>
                      r0 v18
                    else
                      r0 v17
                  else
                    r0 v17
                else
                bif decide (mid2 < (w64 (n_2 - start2))) then
                  bif decide ((w64 (n_2 - start2)) < b_15) then
                    slices_symMergeCmpFunc_int64_4F_impl_multiples_1PP k v16 mid2 (w64 (n_2 - start2)) b_15 b_16 b_17 fun v19 =>
                    r0 v19
                  else
                    r0 v16
                else
                  r0 v16
              else
              bif decide (mid2 < (w64 (n_2 - start2))) then
                bif decide ((w64 (n_2 - start2)) < b_15) then
                  slices_symMergeCmpFunc_int64_4F_impl_multiples_1PP k v16 mid2 (w64 (n_2 - start2)) b_15 b_16 b_17 fun v20 =>
                  r0 v20
                else
                  r0 v16
              else
                r0 v16
            else
            bif decide (a5 < start2) then
              bif decide (start2 < mid2) then
                slices_symMergeCmpFunc_int64_4F_impl_multiples_1PP k data11 a5 start2 mid2 b_16 b_17 fun v21 =>
                bif decide (mid2 < (w64 (n_2 - start2))) then
                  bif decide ((w64 (n_2 - start2)) < b_15) then
                    slices_symMergeCmpFunc_int64_4F_impl_multiples_1PP k v21 mid2 (w64 (n_2 - start2)) b_15 b_16 b_17 fun v22 =>
                    r0 v22
                  else
                    r0 v21
                else
                  r0 v21
              else
              bif decide (mid2 < (w64 (n_2 - start2))) then
                bif decide ((w64 (n_2 - start2)) < b_15) then
                  slices_symMergeCmpFunc_int64_4F_impl_multiples_1PP k data11 mid2 (w64 (n_2 - start2)) b_15 b_16 b_17 fun v23 =>
                  r0 v23
                else
                  r0 data11
              else
                r0 data11
            else
            bif decide (mid2 < (w64 (n_2 - start2))) then
              bif decide ((w64 (n_2 - start2)) < b_15) then
                slices_symMergeCmpFunc_int64_4F_impl_multiples_1PP k data11 mid2 (w64 (n_2 - start2)) b_15 b_16 b_17 fun v24 =>
                r0 v24
              else
                r0 data11
            else
              r0 data11
          else
          bif decide (a5 < start2) then
            bif decide (start2 < mid2) then
              slices_symMergeCmpFunc_int64_4F_impl_multiples_1PP k data11 a5 start2 mid2 b_16 b_17 fun v25 =>
              bif decide (mid2 < (w64 (n_2 - start2))) then
                bif decide ((w64 (n_2 - start2)) < b_15) then
                  slices_symMergeCmpFunc_int64_4F_impl_multiples_1PP k v25 mid2 (w64 (n_2 - start2)) b_15 b_16 b_17 fun v26 =>
                  r0 v26
                else
                  r0 v25
              else
                r0 v25
            else
            bif decide (mid2 < (w64 (n_2 - start2))) then
              bif decide ((w64 (n_2 - start2)) < b_15) then
                slices_symMergeCmpFunc_int64_4F_impl_multiples_1PP k data11 mid2 (w64 (n_2 - start2)) b_15 b_16 b_17 fun v27 =>
                r0 v27
              else
                r0 data11
            else
              r0 data11
          else
          bif decide (mid2 < (w64 (n_2 - start2))) then
            bif decide ((w64 (n_2 - start2)) < b_15) then
              slices_symMergeCmpFunc_int64_4F_impl_multiples_1PP k data11 mid2 (w64 (n_2 - start2)) b_15 b_16 b_17 fun v28 =>
              r0 v28
            else
              r0 data11
          else
            r0 data11)
        r0

def slices_stableCmpFunc_int64_2F_impl_multiples_1PP_l2 {α : Type} : Nat → Int → Int → Int → Int → List Int → Int → Int → (Int → Int → Int → Int → List Int → Int → Int → Option α) → (List Int → Option α) → Option α
  | 0, _, _, _, _, _, _, _, _, _ => none
  | k + 1, n_1, blockSize, a, b_, data1, b_1, b_2, b0, r0 =>
    bif decide (b_ ≤ n_1) then
      slices_insertionSortCmpFunc_int64_3F_impl_multiples_1PP k data1 a b_ b_1 b_2 fun v =>
      slices_stableCmpFunc_int64_2F_impl_multiples_1PP_l2 k n_1 blockSize b_ (w64 (b_ + blockSize)) v b_1 b_2 b0 r0
    else
      b0 n_1 blockSize a b_ data1 b_1 b_2

def slices_stableCmpFunc_int64_2F_impl_multiples_1PP_l9 {α : Type} : Nat → Int → Int → Int → Int → List Int → Int → Int → (Int → Int → Int → Int → List Int → Int → Int → Option α) → (List Int → Option α) → Option α
  | 0, _, _, _, _, _, _, _, _, _ => none
  | k + 1, n_4, blockSize3, a2, b_8, data4, b_9, b_10, b4, r0 =>
    bif decide (b_8 ≤ n_4) then
      slices_symMergeCmpFunc_int64_4F_impl_multiples_1PP k data4 a2 (w64 (a2 + blockSize3)) b_8 b_9 b_10 fun v2 =>
      slices_stableCmpFunc_int64_2F_impl_multiples_1PP_l9 k n_4 blockSize3 b_8 (w64 (b_8 + (w64 (2 * blockSize3)))) v2 b_9 b_10 b4 r0
    else
      b4 n_4 blockSize3 a2 b_8 data4 b_9 b_10

def slices_stableCmpFunc_int64_2F_impl_multiples_1PP_l7 {α : Type} : Nat → Int → Int → List Int → Int → Int → (Int → Int → List Int → Int → Int → Option α) → (List Int → Option α) → Option α
  | 0, _, _, _, _, _, _, _ => none
  | k + 1, n_3, blockSize2, data3, b_6, b_7, b2, r0 =>
    bif decide (blockSize2 < n_3) then
      slices_stableCmpFunc_int64_2F_impl_multiples_1PP_l9 k n_3 blockSize2 0 (w64 (2 * blockSize2)) data3 b_6 b_7
        (fun n_5 blockSize4 a3 _ data5 b_12 b_13 =>
          bif decide ((w64 (a3 + blockSize4)) < n_5) then
            slices_symMergeCmpFunc_int64_4F_impl_multiples_1PP k data5 a3 (w64 (a3 + blockSize4)) n_5 b_12 b_13 fun v3 =>
            slices_stableCmpFunc_int64_2F_impl_multiples_1PP_l7 k n_5 (w64 (blockSize4 * 2)) v3 b_12 b_13 b2 r0
          else
            slices_stableCmpFunc_int64_2F_impl_multiples_1PP_l7 k n_5 (w64 (blockSize4 * 2)) data5 b_12 b_13 b2 r0)
        r0
    else
      b2 n_3 blockSize2 data3 b_6 b_7

/-- slices.stableCmpFunc[int64] -/
def slices_stableCmpFunc_int64_2F_impl_multiples_1PP {α : Type} (k : Nat) (data : List Int) (n_ : Int) (cmp : Int) (cmp1 : Int) (r0 : List Int → Option α) : Option α :=
  slices_stableCmpFunc_int64_2F_impl_multiples_1PP_l2 k n_ 20 0 20 data cmp cmp1
    (fun n_2 blockSize1 a1 _ data2 b_4 b_5 =>
      slices_insertionSortCmpFunc_int64_3F_impl_multiples_1PP k data2 a1 n_2 b_4 b_5 fun v1 =>
      slices_stableCmpFunc_int64_2F_impl_multiples_1PP_l7 k n_2 blockSize1 v1 b_4 b_5
        (fun _ _ data6 _ _ =>
          r0 data6)
        r0)
    r0

/-- slices.SortStableFunc[[]int64,int64] -/
def slices_SortStableFunc_int64_int64_1F_impl_multiples_1PP {α : Type} (k : Nat) (x : List Int) (cmp : Int) (cmp1 : Int) (r0 : List Int → Option α) : Option α :=
  slices_stableCmpFunc_int64_2F_impl_multiples_1PP k x (((List.length x) : Nat) : Int) cmp cmp1 fun v =>
  r0 v

def impl_multiples_l3 {α : Type} : Nat → Int → Int → Int → Int → List Int → (Int → Int → Int → Int → List Int → Option α) → (List Int → Option α) → Option α
  | 0, _, _, _, _, _, _, _ => none
  | k + 1, x, x1, p_1, q_1, out, b0, r0 =>
    bif decide (x1 < x) then
      bif decide (((List.length out) + 1) ≤ big) then
        impl_multiples_l3 k x (w64 (x1 + 1)) p_1 q_1 (out ++ [x1]) b0 r0
      else
        none
    else
      b0 x x1 p_1 q_1 out

/-- loop.example/g01297/impl.multiples -/
def impl_multiples {α : Type} (k : Nat) (p_ : Int) (q_ : Int) (n_ : Int) (r0 : List Int → Option α) : Option α :=
  impl_multiples_l3 k n_ 0 p_ q_ []
    (fun _ _ p_2 q_2 out1 =>
      slices_SortStableFunc_int64_int64_1F_impl_multiples_1PP k out1 p_2 q_2 fun v =>
      r0 v)
    r0

/-- loop.example/g01297/impl.OrderOfMultiples -/
def impl_OrderOfMultiples {α : Type} (k : Nat) (p_ : Int) (q_ : Int) (n_ : Int) (r0 : Int → Option α) (r1 : List Int → Int → Option α) : Option α :=
  impl_placesOk k p_ q_ fun v =>
  bif (!v) then
    r0 2
  else
    impl_in k n_ 1 500 fun v1 =>
    bif (!v1) then
      r0 2
    else
      impl_multiples k p_ q_ n_ fun v2 =>
      r1 v2 0

/-- loop.example/g01297/laws.eqInt64S -/
def laws_eqInt64S_0N_1N {α : Type} (k : Nat)  (r0 : Bool → Option α) : Option α :=
  r0 true

/-- loop.example/g01297/laws.markInt64S -/
def laws_markInt64S_0N {α : Type} (k : Nat) (k_ : Int) (r0 : Int → Option α) : Option α :=
  r0 k_

/-- loop.example/g01297/laws.heldInt64S -/
def laws_heldInt64S_0N {α : Type} (k : Nat) (k_ : Int) (r0 : Int → Option α) : Option α :=
  r0 k_

def laws_eqInt64S_1N_l4 {α : Type} : Nat → Int → List Int → (Int → List Int → Option α) → (Bool → Option α) → Option α
  | 0, _, _, _, _ => none
  | k + 1, i, a1, b0, r0 =>
    bif decide (i < (((List.length a1) : Nat) : Int)) then
      bif (decide (0 ≤ i) && decide (i < (((List.length a1) : Nat) : Int))) then
        (a1[i.toNat]?).bind fun _ =>
        none
      else
        none
    else
      b0 i a1

/-- loop.example/g01297/laws.eqInt64S -/
def laws_eqInt64S_1N {α : Type} (k : Nat) (a : List Int) (r0 : Bool → Option α) : Option α :=
  bif (!decide ((((List.length a) : Nat) : Int) = 0)) then
    r0 false
  else
    laws_eqInt64S_1N_l4 k 0 a
      (fun _ _ =>
        r0 true)
      r0

def laws_markInt64S_l2 {α : Type} : Nat → Int → Int → List Int → (Int → Int → List Int → Option α) → (Int → List Int → Option α) → Option α
  | 0, _, _, _, _, _ => none
  | k + 1, k_1, i, a1, b0, r0 =>
    bif decide (i < (((List.length a1) : Nat) : Int)) then
      bif (decide (0 ≤ i) && decide (i < (((List.length a1) : Nat) : Int))) then
        (a1[i.toNat]?).bind fun _ =>
        laws_markInt64S_l2 k (w64 (k_1 + 1)) (w64 (i + 1)) (List.set a1 i.toNat k_1) b0 r0
      else
        none
    else
      b0 k_1 i a1

/-- loop.example/g01297/laws.markInt64S -/
def laws_markInt64S {α : Type} (k : Nat) (a : List Int) (k_ : Int) (r0 : Int → List Int → Option α) : Option α :=
  laws_markInt64S_l2 k k_ 0 a
    (fun k_2 _ a2 =>
      r0 k_2 a2)
    r0

def laws_heldInt64S_l2 {α : Type} : Nat → Int → Int → List Int → (Int → Int → List Int → Option α) → (Int → Option α) → Option α
  | 0, _, _, _, _, _ => none
  | k + 1, k_1, i, a1, b0, r0 =>
    bif decide (i < (((List.length a1) : Nat) : Int)) then
      bif (decide (0 ≤ i) && decide (i < (((List.length a1) : Nat) : Int))) then
        (a1[i.toNat]?).bind fun e_ =>
        bif (!decide (e_ = k_1)) then
          r0 (-1)
        else
          laws_heldInt64S_l2 k (w64 (k_1 + 1)) (w64 (i + 1)) a1 b0 r0
      else
        none
    else
      b0 k_1 i a1

/-- loop.example/g01297/laws.heldInt64S -/
def laws_heldInt64S {α : Type} (k : Nat) (a : List Int) (k_ : Int) (r0 : Int → Option α) : Option α :=
  laws_heldInt64S_l2 k k_ 0 a
    (fun k_2 _ _ =>
      r0 k_2)
    r0

/-- loop.example/g01297/laws.eqInt64S -/
def laws_eqInt64S_0N {α : Type} (k : Nat) (b_ : List Int) (r0 : Bool → Option α) : Option α :=
  bif (!decide (0 = (((List.length b_) : Nat) : Int))) then
    r0 false
  else
    r0 true

def laws_eqInt64S_l4 {α : Type} : Nat → Int → List Int → List Int → (Int → List Int → List Int → Option α) → (Bool → Option α) → Option α
  | 0, _, _, _, _, _ => none
  | k + 1, i, a1, b_1, b0, r0 =>
    bif decide (i < (((List.length a1) : Nat) : Int)) then
      bif (decide (0 ≤ i) && decide (i < (((List.length a1) : Nat) : Int))) then
        (a1[i.toNat]?).bind fun e_ =>
        bif (decide (0 ≤ i) && decide (i < (((List.length b_1) : Nat) : Int))) then
          (b_1[i.toNat]?).bind fun e_1 =>
          bif (!decide (e_ = e_1)) then
            r0 false
          else
            laws_eqInt64S_l4 k (w64 (i + 1)) a1 b_1 b0 r0
        else
          none
      else
        none
    else
      b0 i a1 b_1

/-- loop.example/g01297/laws.eqInt64S -/
def laws_eqInt64S {α : Type} (k : Nat) (a : List Int) (b_ : List Int) (r0 : Bool → Option α) : Option α :=
  bif (!decide ((((List.length a) : Nat) : Int) = (((List.length b_) : Nat) : Int))) then
    r0 false
  else
    laws_eqInt64S_l4 k 0 a b_
      (fun _ _ _ =>
        r0 true)
      r0

/-- loop.example/g01297/laws.FnExactOrderOfMultiples -/
def laws_FnExactOrderOfMultiples {α : Type} (k : Nat) (aP : Int) (aQ : Int) (aN : Int) (r0 : Bool → Option α) : Option α :=
  spec_OrderOfMultiples k aP aQ aN
    (fun v =>
      impl_OrderOfMultiples k aP aQ aN
        (fun v1 =>
          laws_eqInt64S_0N_1N k fun v2 =>
          bif (!v2) then
            r0 false
          else
          bif (!decide (v1 = v)) then
            r0 false
          else
            laws_markInt64S_0N k 1 fun v3 =>
            laws_heldInt64S_0N k 1 fun v4 =>
            bif decide (v4 < 0) then
              r0 false
            else
            bif (!decide (v4 = v3)) then
              r0 false
            else
              impl_OrderOfMultiples k aP aQ aN
                (fun v5 =>
                  laws_eqInt64S_0N_1N k fun v6 =>
                  bif (!v6) then
                    r0 false
                  else
                  bif (!decide (v5 = v)) then
                    r0 false
                  else
                    laws_heldInt64S_0N k 1 fun v7 =>
                    bif decide (v7 < 0) then
                      r0 false
                    else
                    bif (!decide (v7 = v3)) then
                      r0 false
                    else
                      r0 true)
                (fun v8 v9 =>
                  laws_eqInt64S_1N k v8 fun v10 =>
                  bif (!v10) then
                    r0 false
                  else
                  bif (!decide (v9 = v)) then
                    r0 false
                  else
                    laws_heldInt64S_0N k 1 fun v11 =>
                    bif decide (v11 < 0) then
                      r0 false
                    else
                    bif (!decide (v11 = v3)) then
                      r0 false
                    else
                      r0 true))
        (fun v12 v13 =>
          laws_eqInt64S_1N k v12 fun v14 =>
          bif (!v14) then
            r0 false
          else
          bif (!decide (v13 = v)) then
            r0 false
          else
            laws_markInt64S k v12 1 fun v15 v16 =>
            laws_heldInt64S k v16 1 fun v17 =>
            bif decide (v17 < 0) then
              r0 false
            else
            bif (!decide (v17 = v15)) then
              r0 false
            else
              impl_OrderOfMultiples k aP aQ aN
                (fun v18 =>
                  laws_eqInt64S_0N_1N k fun v19 =>
                  bif (!v19) then
                    r0 false
                  else
                  bif (!decide (v18 = v)) then
                    r0 false
                  else
                    laws_heldInt64S k v16 1 fun v20 =>
                    bif decide (v20 < 0) then
                      r0 false
                    else
                    bif (!decide (v20 = v15)) then
                      r0 false
                    else
                      r0 true)
                (fun v21 v22 =>
                  laws_eqInt64S_1N k v21 fun v23 =>
                  bif (!v23) then
                    r0 false
                  else
                  bif (!decide (v22 = v)) then
                    r0 false
                  else
                    laws_heldInt64S k v16 1 fun v24 =>
                    bif decide (v24 < 0) then
                      r0 false
                    else
                    bif (!decide (v24 = v15)) then
                      r0 false
                    else
                      r0 true)))
    (fun v25 v26 =>
      impl_OrderOfMultiples k aP aQ aN
        (fun v27 =>
          laws_eqInt64S_0N k v25 fun v28 =>
          bif (!v28) then
            r0 false
          else
          bif (!decide (v27 = v26)) then
            r0 false
          else
            laws_markInt64S_0N k 1 fun v29 =>
            laws_heldInt64S_0N k 1 fun v30 =>
            bif decide (v30 < 0) then
              r0 false
            else
            bif (!decide (v30 = v29)) then
              r0 false
            else
              impl_OrderOfMultiples k aP aQ aN
                (fun v31 =>
                  laws_eqInt64S_0N k v25 fun v32 =>
                  bif (!v32) then
                    r0 false
                  else
                  bif (!decide (v31 = v26)) then
                    r0 false
                  else
                    laws_heldInt64S_0N k 1 fun v33 =>
                    bif decide (v33 < 0) then
                      r0 false
                    else
                    bif (!decide (v33 = v29)) then
                      r0 false
                    else
                      r0 true)
                (fun v34 v35 =>
                  laws_eqInt64S k v34 v25 fun v36 =>
                  bif (!v36) then
                    r0 false
                  else
                  bif (!decide (v35 = v26)) then
                    r0 false
                  else
                    laws_heldInt64S_0N k 1 fun v37 =>
                    bif decide (v37 < 0) then
                      r0 false
                    else
                    bif (!decide (v37 = v29)) then
                      r0 false
                    else
                      r0 true))
        (fun v38 v39 =>
          laws_eqInt64S k v38 v25 fun v40 =>
          bif (!v40) then
            r0 false
          else
          bif (!decide (v39 = v26)) then
            r0 false
          else
            laws_markInt64S k v38 1 fun v41 v42 =>
            laws_heldInt64S k v42 1 fun v43 =>
            bif decide (v43 < 0) then
              r0 false
            else
            bif (!decide (v43 = v41)) then
              r0 false
            else
              impl_OrderOfMultiples k aP aQ aN
                (fun v44 =>
                  laws_eqInt64S_0N k v25 fun v45 =>
                  bif (!v45) then
                    r0 false
                  else
                  bif (!decide (v44 = v26)) then
                    r0 false
                  else
                    laws_heldInt64S k v42 1 fun v46 =>
                    bif decide (v46 < 0) then
                      r0 false
                    else
                    bif (!decide (v46 = v41)) then
                      r0 false
                    else
                      r0 true)
                (fun v47 v48 =>
                  laws_eqInt64S k v47 v25 fun v49 =>
                  bif (!v49) then
                    r0 false
                  else
                  bif (!decide (v48 = v26)) then
                    r0 false
                  else
                    laws_heldInt64S k v42 1 fun v50 =>
                    bif decide (v50 < 0) then
                      r0 false
                    else
                    bif (!decide (v50 = v41)) then
                      r0 false
                    else
                      r0 true)))

end Go.Sh
