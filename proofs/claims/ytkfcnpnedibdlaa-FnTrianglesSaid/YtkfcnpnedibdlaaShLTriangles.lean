/- The program's functions, read without memory: printed by a program of ours. -/
import Derived.Test.YtkfcnpnedibdlaaMaB
namespace Go.Sh
open Go Go.Ev

/-- loop.example/g01297/laws.big -/
def laws_big {α : Type} (k : Nat) (code : List Int) (r0 : Bool → Option α) : Option α :=
  r0 (decide (4096 < (((List.length code) : Nat) : Int)))

def spec_l01From_l3 {α : Type} : Nat → Int → List Int → Int → Int → (Int → List Int → Int → Int → Option α) → (Int → Int → Option α) → Option α
  | 0, _, _, _, _, _, _ => none
  | k + 1, i, code1, s, s1, b0, r0 =>
    bif decide (i < (((List.length code1) : Nat) : Int)) then
      bif decide (i < 4096) then
        bif (decide (0 ≤ i) && decide (i < (((List.length code1) : Nat) : Int))) then
          (code1[i.toNat]?).bind fun e_ =>
          spec_l01From_l3 k (w64 (i + 1)) code1 s (IntKind.wrap .u64 ((IntKind.wrap .u64 ((IntKind.wrap .u64 (s1 * 1099511628211)) + (IntKind.wrap .u64 e_))) + 107)) b0 r0
        else
          none
      else
        b0 i code1 s s1
    else
      b0 i code1 s s1

/-- loop.example/g01297/spec.l01From -/
def spec_l01From {α : Type} (k : Nat) (code : List Int) (r0 : Int → Int → Option α) : Option α :=
  spec_l01From_l3 k 0 code 0 (IntKind.wrap .u64 (12971 + (IntKind.wrap .u64 (((List.length code) : Nat) : Int))))
    (fun _ _ s2 s3 =>
      r0 s2 s3)
    r0

/-- loop.example/g01297/spec.l01Next -/
def spec_l01Next {α : Type} (k : Nat) (s : List Int) (s1 : Int) (s2 : Int) (n_ : Int) (r0 : Int → Int → Int → Option α) : Option α :=
  bif decide (n_ < 1) then
    r0 0 s1 s2
  else
  bif decide (s1 < (((List.length s) : Nat) : Int)) then
    bif (decide (0 ≤ s1) && decide (s1 < (((List.length s) : Nat) : Int))) then
      (s[s1.toNat]?).bind fun e_ =>
      bif decide (n_ = 0) then
        none
      else
        r0 (Int.tmod (w64 ((w64 (IntKind.wrap .u64 ((BitVec.ofInt 64 (Int.fdiv (IntKind.wrap .u64 ((IntKind.wrap .u64 (s2 * 6364136223846793005)) + 1442695040888963407)) (2 ^ 31)) &&& BitVec.ofInt 64 1073741823).toNat))) + (w64 e_))) n_) (w64 (s1 + 1)) (IntKind.wrap .u64 ((IntKind.wrap .u64 (s2 * 6364136223846793005)) + 1442695040888963407))
    else
      none
  else
  bif decide (n_ = 0) then
    none
  else
    r0 (Int.tmod (w64 (IntKind.wrap .u64 ((BitVec.ofInt 64 (Int.fdiv (IntKind.wrap .u64 ((IntKind.wrap .u64 (s2 * 6364136223846793005)) + 1442695040888963407)) (2 ^ 31)) &&& BitVec.ofInt 64 1073741823).toNat))) n_) s1 (IntKind.wrap .u64 ((IntKind.wrap .u64 (s2 * 6364136223846793005)) + 1442695040888963407))

/-- loop.example/g01297/spec.l01DrawPoint -/
def spec_l01DrawPoint {α : Type} (k : Nat) (s : List Int) (s1 : Int) (s2 : Int) (most : Int) (r0 : Int → Int → Int → Int → Option α) : Option α :=
  spec_l01Next k s s1 s2 (w64 ((w64 (2 * most)) + 1)) fun v v1 v2 =>
  spec_l01Next k s v1 v2 (w64 ((w64 (2 * most)) + 1)) fun v3 v4 v5 =>
  r0 (w64 (v - most)) (w64 (v3 - most)) v4 v5

/-- loop.example/g01297/spec.l01Plus -/
def spec_l01Plus {α : Type} (k : Nat) (a : Int) (a1 : Int) (b_ : Int) (b_1 : Int) (k_ : Int) (r0 : Int → Int → Option α) : Option α :=
  r0 (w64 (a + (w64 (k_ * b_)))) (w64 (a1 + (w64 (k_ * b_1))))

/-- loop.example/g01297/spec.l01Det -/
def spec_l01Det {α : Type} (k : Nat) (a : Int) (a1 : Int) (b_ : Int) (b_1 : Int) (r0 : Int → Option α) : Option α :=
  r0 (w64 ((w64 (a * b_1)) - (w64 (a1 * b_))))

/-- loop.example/g01297/spec.l01Area -/
def spec_l01Area {α : Type} (k : Nat) (a : Int) (a1 : Int) (b_ : Int) (b_1 : Int) (c : Int) (c1 : Int) (r0 : Int → Option α) : Option α :=
  spec_l01Plus k b_ b_1 a a1 (-1) fun v v1 =>
  spec_l01Plus k c c1 a a1 (-1) fun v2 v3 =>
  spec_l01Det k v v1 v2 v3 fun v4 =>
  r0 (max v4 (w64 (0 - v4)))

/-- loop.example/g01297/spec.l01Pick -/
def spec_l01Pick {α : Type} (k : Nat) (s : List Int) (s1 : Int) (s2 : Int) (list : List Int) (r0 : Int → Int → Int → Option α) : Option α :=
  spec_l01Next k s s1 s2 (((List.length list) : Nat) : Int) fun v v1 v2 =>
  bif (decide (0 ≤ v) && decide (v < (((List.length list) : Nat) : Int))) then
    (list[v.toNat]?).bind fun e_ =>
    r0 e_ v1 v2
  else
    none

/-- loop.example/g01297/spec.l04Draw -/
def spec_l04Draw {α : Type} (k : Nat) (s : List Int) (s1 : Int) (s2 : Int) (r0 : Int → Int → Int → Int → Int → Int → Int → Int → Option α) : Option α :=
  spec_l01Pick k s s1 s2 [2, 4, 4, 8, 20, 1000] fun v v1 v2 =>
  spec_l01DrawPoint k s v1 v2 v fun v3 v4 v5 v6 =>
  spec_l01DrawPoint k s v5 v6 v fun v7 v8 v9 v10 =>
  spec_l01DrawPoint k s v9 v10 v fun v11 v12 v13 v14 =>
  spec_l01Area k v3 v4 v7 v8 v11 v12 fun v15 =>
  bif decide (v15 = 0) then
    spec_l01Pick k s v13 v14 [1, (-1)] fun v16 v17 v18 =>
    spec_l01Plus k v3 v4 1 0 v16 fun v19 v20 =>
    spec_l01Pick k s v17 v18 [1, (-1), 2] fun v21 v22 v23 =>
    spec_l01Plus k v3 v4 0 1 v21 fun v24 v25 =>
    r0 v3 v4 v19 v20 v24 v25 v22 v23
  else
    r0 v3 v4 v7 v8 v11 v12 v13 v14

/-- loop.example/g01297/spec.l04Spoil -/
def spec_l04Spoil {α : Type} (k : Nat) (s : List Int) (s1 : Int) (s2 : Int) (r0 : Int → Int → Int → Int → Int → Int → Int → Int → Option α) : Option α :=
  spec_l04Draw k s s1 s2 fun v v1 v2 v3 v4 v5 v6 v7 =>
  spec_l01Next k s v6 v7 40 fun v8 v9 v10 =>
  bif decide (v8 = 0) then
    spec_l01Next k s v9 v10 2 fun v11 v12 v13 =>
    bif (decide (0 ≤ v11) && decide (v11 < 3)) then
      ([v, v1, v2, v3, v4, v5][(v11.toNat * 2)]?).bind fun e_ =>
      ([v, v1, v2, v3, v4, v5][((v11.toNat * 2) + 1)]?).bind fun e_1 =>
      r0 v v1 v2 v3 e_ e_1 v12 v13
    else
      none
  else
  bif decide (v8 = 1) then
    spec_l01Next k s v9 v10 3 fun v14 v15 v16 =>
    bif (decide (0 ≤ v14) && decide (v14 < 3)) then
      spec_l01Next k s v15 v16 2 fun v17 v18 v19 =>
      spec_l01Pick k s v18 v19 [1001, (-1001), 1000] fun v20 v21 v22 =>
      bif (decide (0 ≤ v17) && decide (v17 < 2)) then
        ([v, v1, v2, v3, v4, v5][(moved (v14.toNat * 2) v17.toNat 1)]?).bind fun _ =>
        ((List.set [v, v1, v2, v3, v4, v5] (moved (v14.toNat * 2) v17.toNat 1) v20)[0]?).bind fun e_2 =>
        ((List.set [v, v1, v2, v3, v4, v5] (moved (v14.toNat * 2) v17.toNat 1) v20)[1]?).bind fun e_3 =>
        ((List.set [v, v1, v2, v3, v4, v5] (moved (v14.toNat * 2) v17.toNat 1) v20)[2]?).bind fun e_4 =>
        ((List.set [v, v1, v2, v3, v4, v5] (moved (v14.toNat * 2) v17.toNat 1) v20)[3]?).bind fun e_5 =>
        ((List.set [v, v1, v2, v3, v4, v5] (moved (v14.toNat * 2) v17.toNat 1) v20)[4]?).bind fun e_6 =>
        ((List.set [v, v1, v2, v3, v4, v5] (moved (v14.toNat * 2) v17.toNat 1) v20)[5]?).bind fun e_7 =>
        r0 e_2 e_3 e_4 e_5 e_6 e_7 v21 v22
      else
        none
    else
      none
  else
    r0 v v1 v2 v3 v4 v5 v9 v10

/-- loop.example/g01297/spec.l04Small -/
def spec_l04Small {α : Type} (k : Nat) (s : List Int) (s1 : Int) (s2 : Int) (r0 : Int → Int → Int → Int → Int → Int → Int → Int → Option α) : Option α :=
  spec_l01DrawPoint k s s1 s2 12 fun v v1 v2 v3 =>
  spec_l01DrawPoint k s v2 v3 12 fun v4 v5 v6 v7 =>
  spec_l01DrawPoint k s v6 v7 12 fun v8 v9 v10 v11 =>
  spec_l01Area k v v1 v4 v5 v8 v9 fun v12 =>
  bif decide (v12 = 0) then
    spec_l04Spoil k s v10 v11 fun v13 v14 v15 v16 v17 v18 v19 v20 =>
    r0 v13 v14 v15 v16 v17 v18 v19 v20
  else
    spec_l01Next k s v10 v11 12 fun v21 v22 v23 =>
    bif decide (v21 = 0) then
      spec_l04Spoil k s v22 v23 fun v24 v25 v26 v27 v28 v29 v30 v31 =>
      r0 v24 v25 v26 v27 v28 v29 v30 v31
    else
      r0 v v1 v4 v5 v8 v9 v22 v23

/-- loop.example/g01297/spec.DrawInnerPoints -/
def spec_DrawInnerPoints {α : Type} (k : Nat) (code : List Int) (r0 : Int → Int → Int → Int → Int → Int → Option α) : Option α :=
  spec_l01From k code fun v v1 =>
  spec_l04Small k code v v1 fun v2 v3 v4 v5 v6 v7 _ _ =>
  r0 v2 v3 v4 v5 v6 v7

/-- loop.example/g01297/impl.in -/
def impl_in {α : Type} (k : Nat) (n_ : Int) (low : Int) (high : Int) (r0 : Bool → Option α) : Option α :=
  bif decide (low ≤ n_) then
    r0 (decide (n_ ≤ high))
  else
    r0 false

/-- loop.example/g01297/impl.small -/
def impl_small {α : Type} (k : Nat) (a : Int) (a1 : Int) (r0 : Bool → Option α) : Option α :=
  impl_in k a (-1000) 1000 fun v =>
  bif v then
    impl_in k a1 (-1000) 1000 fun v1 =>
    r0 v1
  else
    r0 false

/-- (loop.example/g01297/impl.Point).plus -/
def impl_Point_plus {α : Type} (k : Nat) (a : Int) (a1 : Int) (b_ : Int) (b_1 : Int) (k_ : Int) (r0 : Int → Int → Option α) : Option α :=
  r0 (w64 (a + (w64 (k_ * b_)))) (w64 (a1 + (w64 (k_ * b_1))))

/-- (loop.example/g01297/impl.Point).less -/
def impl_Point_less {α : Type} (k : Nat) (a : Int) (a1 : Int) (b_ : Int) (b_1 : Int) (r0 : Int → Int → Option α) : Option α :=
  impl_Point_plus k a a1 b_ b_1 (-1) fun v v1 =>
  r0 v v1

/-- loop.example/g01297/impl.det -/
def impl_det {α : Type} (k : Nat) (a : Int) (a1 : Int) (b_ : Int) (b_1 : Int) (r0 : Int → Option α) : Option α :=
  r0 (w64 ((w64 (a * b_1)) - (w64 (a1 * b_))))

/-- loop.example/g01297/impl.size -/
def impl_size {α : Type} (k : Nat) (n_ : Int) (r0 : Int → Option α) : Option α :=
  r0 (max n_ (w64 (0 - n_)))

/-- loop.example/g01297/impl.area -/
def impl_area {α : Type} (k : Nat) (a : Int) (a1 : Int) (b_ : Int) (b_1 : Int) (c : Int) (c1 : Int) (r0 : Int → Option α) : Option α :=
  impl_Point_less k b_ b_1 a a1 fun v v1 =>
  impl_Point_less k c c1 a a1 fun v2 v3 =>
  impl_det k v v1 v2 v3 fun v4 =>
  impl_size k v4 fun v5 =>
  r0 v5

/-- loop.example/g01297/impl.IsTriangle -/
def impl_IsTriangle {α : Type} (k : Nat) (t : Int) (t1 : Int) (t2 : Int) (t3 : Int) (t4 : Int) (t5 : Int) (r0 : Bool → Option α) : Option α :=
  impl_small k t t1 fun v =>
  bif v then
    impl_small k t2 t3 fun v1 =>
    bif v1 then
      impl_small k t4 t5 fun v2 =>
      bif v2 then
        impl_area k t t1 t2 t3 t4 t5 fun v3 =>
        r0 (!decide (v3 = 0))
      else
        r0 false
    else
      r0 false
  else
    r0 false

/-- (loop.example/g01297/impl.Triangle).area -/
def impl_Triangle_area {α : Type} (k : Nat) (t : Int) (t1 : Int) (t2 : Int) (t3 : Int) (t4 : Int) (t5 : Int) (r0 : Int → Option α) : Option α :=
  impl_area k t t1 t2 t3 t4 t5 fun v =>
  r0 v

/-- (loop.example/g01297/impl.Triangle).side -/
def impl_Triangle_side {α : Type} (k : Nat) (t : Int) (t1 : Int) (t2 : Int) (t3 : Int) (t4 : Int) (t5 : Int) (i : Int) (k_ : Int) (r0 : Int → Int → Option α) : Option α :=
  bif (decide (0 ≤ k_) && decide (k_ < 3)) then
    ([t, t1, t2, t3, t4, t5][(k_.toNat * 2)]?).bind fun e_ =>
    ([t, t1, t2, t3, t4, t5][((k_.toNat * 2) + 1)]?).bind fun e_1 =>
    bif (decide (0 ≤ i) && decide (i < 3)) then
      ([t, t1, t2, t3, t4, t5][(i.toNat * 2)]?).bind fun e_2 =>
      ([t, t1, t2, t3, t4, t5][((i.toNat * 2) + 1)]?).bind fun e_3 =>
      impl_Point_less k e_ e_1 e_2 e_3 fun v v1 =>
      r0 v v1
    else
      none
  else
    none

def impl_gcd_l1 {α : Type} : Nat → Int → Int → (Int → Int → Option α) → (Int → Option α) → Option α
  | 0, _, _, _, _ => none
  | k + 1, a1, b_1, b0, r0 =>
    bif (!decide (b_1 = 0)) then
      bif decide (b_1 = 0) then
        none
      else
        impl_gcd_l1 k b_1 (Int.tmod a1 b_1) b0 r0
    else
      b0 a1 b_1

/-- loop.example/g01297/impl.gcd -/
def impl_gcd {α : Type} (k : Nat) (a : Int) (b_ : Int) (r0 : Int → Option α) : Option α :=
  impl_gcd_l1 k a b_
    (fun a2 _ =>
      impl_size k a2 fun v =>
      r0 v)
    r0

/-- (loop.example/g01297/impl.Point).length -/
def impl_Point_length {α : Type} (k : Nat) (a : Int) (a1 : Int) (r0 : Int → Option α) : Option α :=
  impl_gcd k a a1 fun v =>
  r0 v

/-- (loop.example/g01297/impl.Triangle).boundary -/
def impl_Triangle_boundary {α : Type} (k : Nat) (t : Int) (t1 : Int) (t2 : Int) (t3 : Int) (t4 : Int) (t5 : Int) (r0 : Int → Option α) : Option α :=
  impl_Triangle_side k t t1 t2 t3 t4 t5 0 1 fun v v1 =>
  impl_Point_length k v v1 fun v2 =>
  impl_Triangle_side k t t1 t2 t3 t4 t5 1 2 fun v3 v4 =>
  impl_Point_length k v3 v4 fun v5 =>
  impl_Triangle_side k t t1 t2 t3 t4 t5 2 0 fun v6 v7 =>
  impl_Point_length k v6 v7 fun v8 =>
  r0 (w64 ((w64 (v2 + v5)) + v8))

/-- (loop.example/g01297/impl.Triangle).inner -/
def impl_Triangle_inner {α : Type} (k : Nat) (t : Int) (t1 : Int) (t2 : Int) (t3 : Int) (t4 : Int) (t5 : Int) (r0 : Int → Option α) : Option α :=
  impl_Triangle_area k t t1 t2 t3 t4 t5 fun v =>
  impl_Triangle_boundary k t t1 t2 t3 t4 t5 fun v1 =>
  r0 (w64 ((w64 (Int.tdiv (w64 (v - v1)) 2)) + 1))

/-- loop.example/g01297/impl.sign -/
def impl_sign {α : Type} (k : Nat) (n_ : Int) (r0 : Int → Option α) : Option α :=
  bif decide (n_ < 0) then
    r0 (-1)
  else
    r0 1

/-- (loop.example/g01297/impl.Triangle).inside -/
def impl_Triangle_inside {α : Type} (k : Nat) (t : Int) (t1 : Int) (t2 : Int) (t3 : Int) (t4 : Int) (t5 : Int) (a : Int) (a1 : Int) (r0 : Bool → Option α) : Option α :=
  impl_Triangle_side k t t1 t2 t3 t4 t5 0 1 fun v v1 =>
  impl_Triangle_side k t t1 t2 t3 t4 t5 0 2 fun v2 v3 =>
  impl_det k v v1 v2 v3 fun v4 =>
  impl_sign k v4 fun v5 =>
  impl_Triangle_side k t t1 t2 t3 t4 t5 0 1 fun v6 v7 =>
  impl_Point_less k a a1 t t1 fun v8 v9 =>
  impl_det k v6 v7 v8 v9 fun v10 =>
  bif decide ((w64 (v5 * v10)) ≤ 0) then
    r0 false
  else
    impl_Triangle_side k t t1 t2 t3 t4 t5 1 2 fun v11 v12 =>
    impl_Point_less k a a1 t2 t3 fun v13 v14 =>
    impl_det k v11 v12 v13 v14 fun v15 =>
    bif decide ((w64 (v5 * v15)) ≤ 0) then
      r0 false
    else
      impl_Triangle_side k t t1 t2 t3 t4 t5 2 0 fun v16 v17 =>
      impl_Point_less k a a1 t4 t5 fun v18 v19 =>
      impl_det k v16 v17 v18 v19 fun v20 =>
      bif decide ((w64 (v5 * v20)) ≤ 0) then
        r0 false
      else
        r0 true

def impl_InnerPoints_l11 {α : Type} : Nat → Int → Int → Int → Int → Int → Int → Int → Int → Int → Int → (List (Int × Int)) → (Int → Int → Int → Int → Int → Int → Int → Int → Int → Int → (List (Int × Int)) → Option α) → (Int → Option α) → ((List (Int × Int)) → Int → Option α) → Option α
  | 0, _, _, _, _, _, _, _, _, _, _, _, _, _, _ => none
  | k + 1, low1, high1, x1, y, t12, t13, t14, t15, t16, t17, out1, b3, r0, r1 =>
    bif decide (y ≤ high1) then
      impl_Triangle_inside k t12 t13 t14 t15 t16 t17 x1 y fun v2 =>
      bif v2 then
        bif decide (((List.length out1) + 1) ≤ big) then
          impl_InnerPoints_l11 k low1 high1 x1 (w64 (y + 1)) t12 t13 t14 t15 t16 t17 (out1 ++ [(x1, y)]) b3 r0 r1
        else
          none
      else
        impl_InnerPoints_l11 k low1 high1 x1 (w64 (y + 1)) t12 t13 t14 t15 t16 t17 out1 b3 r0 r1
    else
      b3 low1 high1 x1 y t12 t13 t14 t15 t16 t17 out1

def impl_InnerPoints_l8 {α : Type} : Nat → Int → Int → Int → Int → Int → Int → Int → Int → Int → (List (Int × Int)) → (Int → Int → Int → Int → Int → Int → Int → Int → Int → (List (Int × Int)) → Option α) → (Int → Option α) → ((List (Int × Int)) → Int → Option α) → Option α
  | 0, _, _, _, _, _, _, _, _, _, _, _, _, _ => none
  | k + 1, low, high, x, t6, t7, t8, t9, t10, t11, out, b1, r0, r1 =>
    bif decide (x ≤ (max (max t6 t8) t10)) then
      impl_InnerPoints_l11 k low high x low t6 t7 t8 t9 t10 t11 out
        (fun low2 high2 x2 _ t18 t19 t20 t21 t22 t23 out2 =>
          impl_InnerPoints_l8 k low2 high2 (w64 (x2 + 1)) t18 t19 t20 t21 t22 t23 out2 b1 r0 r1)
        r0 r1
    else
      b1 low high x t6 t7 t8 t9 t10 t11 out

/-- loop.example/g01297/impl.InnerPoints -/
def impl_InnerPoints {α : Type} (k : Nat) (t : Int) (t1 : Int) (t2 : Int) (t3 : Int) (t4 : Int) (t5 : Int) (r0 : Int → Option α) (r1 : (List (Int × Int)) → Int → Option α) : Option α :=
  impl_IsTriangle k t t1 t2 t3 t4 t5 fun v =>
  bif (!v) then
    r0 1
  else
    impl_Triangle_inner k t t1 t2 t3 t4 t5 fun v1 =>
    bif decide (1000 < v1) then
      r0 3
    else
      impl_InnerPoints_l8 k (min (min t1 t3) t5) (max (max t1 t3) t5) (min (min t t2) t4) t t1 t2 t3 t4 t5 []
        (fun _ _ _ _ _ _ _ _ _ out3 =>
          r1 out3 0)
        r0 r1

/-- loop.example/g01297/spec.l01In -/
def spec_l01In {α : Type} (k : Nat) (n_ : Int) (low : Int) (high : Int) (r0 : Bool → Option α) : Option α :=
  bif decide (low ≤ n_) then
    r0 (decide (n_ ≤ high))
  else
    r0 false

/-- loop.example/g01297/spec.l04Is -/
def spec_l04Is {α : Type} (k : Nat) (t : Int) (t1 : Int) (t2 : Int) (t3 : Int) (t4 : Int) (t5 : Int) (r0 : Bool → Option α) : Option α :=
  spec_l01In k t (-1000) 1000 fun v =>
  bif (!v) then
    r0 false
  else
    spec_l01In k t1 (-1000) 1000 fun v1 =>
    bif (!v1) then
      r0 false
    else
      spec_l01In k t2 (-1000) 1000 fun v2 =>
      bif (!v2) then
        r0 false
      else
        spec_l01In k t3 (-1000) 1000 fun v3 =>
        bif (!v3) then
          r0 false
        else
          spec_l01In k t4 (-1000) 1000 fun v4 =>
          bif (!v4) then
            r0 false
          else
            spec_l01In k t5 (-1000) 1000 fun v5 =>
            bif (!v5) then
              r0 false
            else
              spec_l01Area k t t1 t2 t3 t4 t5 fun v6 =>
              r0 (!decide (v6 = 0))

/-- loop.example/g01297/spec.l04Area -/
def spec_l04Area {α : Type} (k : Nat) (t : Int) (t1 : Int) (t2 : Int) (t3 : Int) (t4 : Int) (t5 : Int) (r0 : Int → Option α) : Option α :=
  spec_l01Area k t t1 t2 t3 t4 t5 fun v =>
  r0 v

def spec_l01Gcd_l1 {α : Type} : Nat → Int → Int → (Int → Int → Option α) → (Int → Option α) → Option α
  | 0, _, _, _, _ => none
  | k + 1, a1, b_1, b0, r0 =>
    bif (!decide (b_1 = 0)) then
      bif decide (b_1 = 0) then
        none
      else
        spec_l01Gcd_l1 k b_1 (Int.tmod a1 b_1) b0 r0
    else
      b0 a1 b_1

/-- loop.example/g01297/spec.l01Gcd -/
def spec_l01Gcd {α : Type} (k : Nat) (a : Int) (b_ : Int) (r0 : Int → Option α) : Option α :=
  spec_l01Gcd_l1 k a b_
    (fun a2 _ =>
      r0 (max a2 (w64 (0 - a2))))
    r0

/-- loop.example/g01297/spec.l01Length -/
def spec_l01Length {α : Type} (k : Nat) (a : Int) (a1 : Int) (b_ : Int) (b_1 : Int) (r0 : Int → Option α) : Option α :=
  spec_l01Gcd k (w64 (b_ - a)) (w64 (b_1 - a1)) fun v =>
  r0 v

/-- loop.example/g01297/spec.l04Boundary -/
def spec_l04Boundary {α : Type} (k : Nat) (t : Int) (t1 : Int) (t2 : Int) (t3 : Int) (t4 : Int) (t5 : Int) (r0 : Int → Option α) : Option α :=
  spec_l01Length k t t1 t2 t3 fun v =>
  spec_l01Length k t2 t3 t4 t5 fun v1 =>
  spec_l01Length k t4 t5 t t1 fun v2 =>
  r0 (w64 ((w64 (v + v1)) + v2))

/-- loop.example/g01297/spec.l04Inner -/
def spec_l04Inner {α : Type} (k : Nat) (t : Int) (t1 : Int) (t2 : Int) (t3 : Int) (t4 : Int) (t5 : Int) (r0 : Int → Option α) : Option α :=
  spec_l04Area k t t1 t2 t3 t4 t5 fun v =>
  spec_l04Boundary k t t1 t2 t3 t4 t5 fun v1 =>
  r0 (w64 ((w64 (Int.tdiv (w64 (v - v1)) 2)) + 1))

/-- loop.example/g01297/spec.l04Side -/
def spec_l04Side {α : Type} (k : Nat) (t : Int) (t1 : Int) (t2 : Int) (t3 : Int) (t4 : Int) (t5 : Int) (i : Int) (a : Int) (a1 : Int) (r0 : Int → Option α) : Option α :=
  bif (decide (0 ≤ i) && decide (i < 3)) then
    ([t, t1, t2, t3, t4, t5][(i.toNat * 2)]?).bind fun e_ =>
    ([t, t1, t2, t3, t4, t5][((i.toNat * 2) + 1)]?).bind fun e_1 =>
    bif (decide (0 ≤ (Int.tmod (w64 (i + 1)) 3)) && decide ((Int.tmod (w64 (i + 1)) 3) < 3)) then
      ([t, t1, t2, t3, t4, t5][((Int.tmod (w64 (i + 1)) 3).toNat * 2)]?).bind fun e_2 =>
      ([t, t1, t2, t3, t4, t5][(((Int.tmod (w64 (i + 1)) 3).toNat * 2) + 1)]?).bind fun e_3 =>
      spec_l01Plus k e_2 e_3 e_ e_1 (-1) fun v v1 =>
      spec_l01Plus k a a1 e_ e_1 (-1) fun v2 v3 =>
      spec_l01Det k v v1 v2 v3 fun v4 =>
      r0 v4
    else
      none
  else
    none

def spec_InnerPoints_l15 {α : Type} : Nat → Int → Int → Int → Int → Int → Int → Int → Int → Int → Int → Int → Int → (List (Int × Int)) → (Int → Int → Int → Int → Int → Int → Int → Int → Int → Int → Int → Int → (List (Int × Int)) → Option α) → (Int → Option α) → ((List (Int × Int)) → Int → Option α) → Option α
  | 0, _, _, _, _, _, _, _, _, _, _, _, _, _, _, _, _ => none
  | k + 1, turn1, high1, from_1, to1, x1, y, t12, t13, t14, t15, t16, t17, out1, b2, r0, r1 =>
    bif decide (y ≤ to1) then
      spec_l04Side k t12 t13 t14 t15 t16 t17 0 x1 y fun v3 =>
      bif decide (0 < (w64 (turn1 * v3))) then
        spec_l04Side k t12 t13 t14 t15 t16 t17 1 x1 y fun v4 =>
        bif decide (0 < (w64 (turn1 * v4))) then
          spec_l04Side k t12 t13 t14 t15 t16 t17 2 x1 y fun v5 =>
          bif decide (0 < (w64 (turn1 * v5))) then
            bif decide (((List.length out1) + 1) ≤ big) then
              spec_InnerPoints_l15 k turn1 high1 from_1 to1 x1 (w64 (y + 1)) t12 t13 t14 t15 t16 t17 (out1 ++ [(x1, y)]) b2 r0 r1
            else
              none
          else
            spec_InnerPoints_l15 k turn1 high1 from_1 to1 x1 (w64 (y + 1)) t12 t13 t14 t15 t16 t17 out1 b2 r0 r1
        else
          spec_InnerPoints_l15 k turn1 high1 from_1 to1 x1 (w64 (y + 1)) t12 t13 t14 t15 t16 t17 out1 b2 r0 r1
      else
        spec_InnerPoints_l15 k turn1 high1 from_1 to1 x1 (w64 (y + 1)) t12 t13 t14 t15 t16 t17 out1 b2 r0 r1
    else
      b2 turn1 high1 from_1 to1 x1 y t12 t13 t14 t15 t16 t17 out1

def spec_InnerPoints_l12 {α : Type} : Nat → Int → Int → Int → Int → Int → Int → Int → Int → Int → Int → Int → (List (Int × Int)) → (Int → Int → Int → Int → Int → Int → Int → Int → Int → Int → Int → (List (Int × Int)) → Option α) → (Int → Option α) → ((List (Int × Int)) → Int → Option α) → Option α
  | 0, _, _, _, _, _, _, _, _, _, _, _, _, _, _, _ => none
  | k + 1, turn, high, from_, to, x, t6, t7, t8, t9, t10, t11, out, b0, r0, r1 =>
    bif decide (x ≤ high) then
      spec_InnerPoints_l15 k turn high from_ to x from_ t6 t7 t8 t9 t10 t11 out
        (fun turn2 high2 from_2 to2 x2 _ t18 t19 t20 t21 t22 t23 out2 =>
          spec_InnerPoints_l12 k turn2 high2 from_2 to2 (w64 (x2 + 1)) t18 t19 t20 t21 t22 t23 out2 b0 r0 r1)
        r0 r1
    else
      b0 turn high from_ to x t6 t7 t8 t9 t10 t11 out

/-- loop.example/g01297/spec.InnerPoints -/
def spec_InnerPoints {α : Type} (k : Nat) (t : Int) (t1 : Int) (t2 : Int) (t3 : Int) (t4 : Int) (t5 : Int) (r0 : Int → Option α) (r1 : (List (Int × Int)) → Int → Option α) : Option α :=
  spec_l04Is k t t1 t2 t3 t4 t5 fun v =>
  bif (!v) then
    r0 1
  else
    spec_l04Inner k t t1 t2 t3 t4 t5 fun v1 =>
    bif decide (1000 < v1) then
      r0 3
    else
      spec_l04Side k t t1 t2 t3 t4 t5 0 t4 t5 fun v2 =>
      bif decide (v2 < 0) then
        spec_InnerPoints_l12 k (-1) (max (max t t2) t4) (min (min t1 t3) t5) (max (max t1 t3) t5) (min (min t t2) t4) t t1 t2 t3 t4 t5 []
          (fun _ _ _ _ _ _ _ _ _ _ _ out3 =>
            r1 out3 0)
          r0 r1
      else
        spec_InnerPoints_l12 k 1 (max (max t t2) t4) (min (min t1 t3) t5) (max (max t1 t3) t5) (min (min t t2) t4) t t1 t2 t3 t4 t5 []
          (fun _ _ _ _ _ _ _ _ _ _ _ out4 =>
            r1 out4 0)
          r0 r1

/-- loop.example/g01297/laws.points9 -/
def laws_points9_0N_1N {α : Type} (k : Nat)  (r0 : Bool → Option α) : Option α :=
  r0 true

/-- loop.example/g01297/spec.IsTriangle -/
def spec_IsTriangle {α : Type} (k : Nat) (t : Int) (t1 : Int) (t2 : Int) (t3 : Int) (t4 : Int) (t5 : Int) (r0 : Bool → Option α) : Option α :=
  spec_l04Is k t t1 t2 t3 t4 t5 fun v =>
  r0 v

/-- loop.example/g01297/spec.DrawCountInner -/
def spec_DrawCountInner {α : Type} (k : Nat) (code : List Int) (r0 : Int → Int → Int → Int → Int → Int → Option α) : Option α :=
  spec_l01From k code fun v v1 =>
  spec_l04Spoil k code v v1 fun v2 v3 v4 v5 v6 v7 _ _ =>
  r0 v2 v3 v4 v5 v6 v7

/-- loop.example/g01297/impl.ofTriangle -/
def impl_ofTriangle_1F_impl_Triangle_inner {α : Type} (k : Nat) (t : Int) (t1 : Int) (t2 : Int) (t3 : Int) (t4 : Int) (t5 : Int) (r0 : Int → Int → Option α) : Option α :=
  impl_IsTriangle k t t1 t2 t3 t4 t5 fun v =>
  bif (!v) then
    r0 0 1
  else
    impl_Triangle_inner k t t1 t2 t3 t4 t5 fun v1 =>
    r0 v1 0

/-- loop.example/g01297/impl.CountInner -/
def impl_CountInner {α : Type} (k : Nat) (t : Int) (t1 : Int) (t2 : Int) (t3 : Int) (t4 : Int) (t5 : Int) (r0 : Int → Int → Option α) : Option α :=
  impl_ofTriangle_1F_impl_Triangle_inner k t t1 t2 t3 t4 t5 fun v v1 =>
  r0 v v1

/-- loop.example/g01297/spec.CountInner -/
def spec_CountInner {α : Type} (k : Nat) (t : Int) (t1 : Int) (t2 : Int) (t3 : Int) (t4 : Int) (t5 : Int) (r0 : Int → Int → Option α) : Option α :=
  spec_l04Is k t t1 t2 t3 t4 t5 fun v =>
  bif (!v) then
    r0 0 1
  else
    spec_l04Inner k t t1 t2 t3 t4 t5 fun v1 =>
    r0 v1 0

/-- loop.example/g01297/impl.ofTriangle -/
def impl_ofTriangle_1F_impl_Triangle_area {α : Type} (k : Nat) (t : Int) (t1 : Int) (t2 : Int) (t3 : Int) (t4 : Int) (t5 : Int) (r0 : Int → Int → Option α) : Option α :=
  impl_IsTriangle k t t1 t2 t3 t4 t5 fun v =>
  bif (!v) then
    r0 0 1
  else
    impl_Triangle_area k t t1 t2 t3 t4 t5 fun v1 =>
    r0 v1 0

/-- loop.example/g01297/impl.AreaOfTriangle -/
def impl_AreaOfTriangle {α : Type} (k : Nat) (t : Int) (t1 : Int) (t2 : Int) (t3 : Int) (t4 : Int) (t5 : Int) (r0 : Int → Int → Option α) : Option α :=
  impl_ofTriangle_1F_impl_Triangle_area k t t1 t2 t3 t4 t5 fun v v1 =>
  r0 v v1

/-- loop.example/g01297/spec.AreaOfTriangle -/
def spec_AreaOfTriangle {α : Type} (k : Nat) (t : Int) (t1 : Int) (t2 : Int) (t3 : Int) (t4 : Int) (t5 : Int) (r0 : Int → Int → Option α) : Option α :=
  spec_l04Is k t t1 t2 t3 t4 t5 fun v =>
  bif (!v) then
    r0 0 1
  else
    spec_l04Area k t t1 t2 t3 t4 t5 fun v1 =>
    r0 v1 0

/-- loop.example/g01297/impl.ofTriangle -/
def impl_ofTriangle_1F_impl_Triangle_boundary {α : Type} (k : Nat) (t : Int) (t1 : Int) (t2 : Int) (t3 : Int) (t4 : Int) (t5 : Int) (r0 : Int → Int → Option α) : Option α :=
  impl_IsTriangle k t t1 t2 t3 t4 t5 fun v =>
  bif (!v) then
    r0 0 1
  else
    impl_Triangle_boundary k t t1 t2 t3 t4 t5 fun v1 =>
    r0 v1 0

/-- loop.example/g01297/impl.BoundaryOf -/
def impl_BoundaryOf {α : Type} (k : Nat) (t : Int) (t1 : Int) (t2 : Int) (t3 : Int) (t4 : Int) (t5 : Int) (r0 : Int → Int → Option α) : Option α :=
  impl_ofTriangle_1F_impl_Triangle_boundary k t t1 t2 t3 t4 t5 fun v v1 =>
  r0 v v1

/-- loop.example/g01297/spec.BoundaryOf -/
def spec_BoundaryOf {α : Type} (k : Nat) (t : Int) (t1 : Int) (t2 : Int) (t3 : Int) (t4 : Int) (t5 : Int) (r0 : Int → Int → Option α) : Option α :=
  spec_l04Is k t t1 t2 t3 t4 t5 fun v =>
  bif (!v) then
    r0 0 1
  else
    spec_l04Boundary k t t1 t2 t3 t4 t5 fun v1 =>
    r0 v1 0

/-- (loop.example/g01297/impl.Point).primitive -/
def impl_Point_primitive {α : Type} (k : Nat) (a : Int) (a1 : Int) (r0 : Int → Int → Option α) : Option α :=
  impl_Point_length k a a1 fun v =>
  bif decide (v = 0) then
    none
  else
  bif decide (v = 0) then
    none
  else
    r0 (w64 (Int.tdiv a v)) (w64 (Int.tdiv a1 v))

/-- (loop.example/g01297/impl.Triangle).corner -/
def impl_Triangle_corner {α : Type} (k : Nat) (t : Int) (t1 : Int) (t2 : Int) (t3 : Int) (t4 : Int) (t5 : Int) (i : Int) (r0 : Int → Int → Int → Int → Option α) : Option α :=
  impl_Triangle_side k t t1 t2 t3 t4 t5 i (Int.tmod (w64 (i + 1)) 3) fun v v1 =>
  impl_Point_primitive k v v1 fun v2 v3 =>
  impl_Triangle_side k t t1 t2 t3 t4 t5 i (Int.tmod (w64 (i + 2)) 3) fun v4 v5 =>
  impl_Point_primitive k v4 v5 fun v6 v7 =>
  r0 v2 v3 v6 v7

/-- (loop.example/g01297/impl.Corner).sine -/
def impl_Corner_sine {α : Type} (k : Nat) (x : Int) (x1 : Int) (x2 : Int) (x3 : Int) (r0 : Int → Option α) : Option α :=
  impl_det k x x1 x2 x3 fun v =>
  impl_size k v fun v1 =>
  r0 v1

/-- loop.example/g01297/impl.SinesOf -/
def impl_SinesOf {α : Type} (k : Nat) (t : Int) (t1 : Int) (t2 : Int) (t3 : Int) (t4 : Int) (t5 : Int) (r0 : Int → Option α) (r1 : List Int → Int → Option α) : Option α :=
  impl_IsTriangle k t t1 t2 t3 t4 t5 fun v =>
  bif (!v) then
    r0 1
  else
    impl_Triangle_corner k t t1 t2 t3 t4 t5 0 fun v1 v2 v3 v4 =>
    impl_Corner_sine k v1 v2 v3 v4 fun v5 =>
    impl_Triangle_corner k t t1 t2 t3 t4 t5 1 fun v6 v7 v8 v9 =>
    impl_Corner_sine k v6 v7 v8 v9 fun v10 =>
    impl_Triangle_corner k t t1 t2 t3 t4 t5 2 fun v11 v12 v13 v14 =>
    impl_Corner_sine k v11 v12 v13 v14 fun v15 =>
    r1 [v5, v10, v15] 0

/-- loop.example/g01297/spec.l01Part -/
def spec_l01Part {α : Type} (k : Nat) (a : Int) (a1 : Int) (r0 : Int → Int → Option α) : Option α :=
  spec_l01Gcd k a a1 fun v =>
  bif decide (v = 0) then
    none
  else
  bif decide (v = 0) then
    none
  else
    r0 (w64 (Int.tdiv a v)) (w64 (Int.tdiv a1 v))

/-- loop.example/g01297/spec.l04Corner -/
def spec_l04Corner {α : Type} (k : Nat) (t : Int) (t1 : Int) (t2 : Int) (t3 : Int) (t4 : Int) (t5 : Int) (i : Int) (r0 : Int → Int → Int → Int → Option α) : Option α :=
  bif (decide (0 ≤ i) && decide (i < 3)) then
    ([t, t1, t2, t3, t4, t5][(i.toNat * 2)]?).bind fun e_ =>
    ([t, t1, t2, t3, t4, t5][((i.toNat * 2) + 1)]?).bind fun e_1 =>
    bif (decide (0 ≤ (Int.tmod (w64 (i + 1)) 3)) && decide ((Int.tmod (w64 (i + 1)) 3) < 3)) then
      ([t, t1, t2, t3, t4, t5][((Int.tmod (w64 (i + 1)) 3).toNat * 2)]?).bind fun e_2 =>
      ([t, t1, t2, t3, t4, t5][(((Int.tmod (w64 (i + 1)) 3).toNat * 2) + 1)]?).bind fun e_3 =>
      bif (decide (0 ≤ (Int.tmod (w64 (i + 2)) 3)) && decide ((Int.tmod (w64 (i + 2)) 3) < 3)) then
        ([t, t1, t2, t3, t4, t5][((Int.tmod (w64 (i + 2)) 3).toNat * 2)]?).bind fun e_4 =>
        ([t, t1, t2, t3, t4, t5][(((Int.tmod (w64 (i + 2)) 3).toNat * 2) + 1)]?).bind fun e_5 =>
        spec_l01Plus k e_2 e_3 e_ e_1 (-1) fun v v1 =>
        spec_l01Part k v v1 fun v2 v3 =>
        spec_l01Plus k e_4 e_5 e_ e_1 (-1) fun v4 v5 =>
        spec_l01Part k v4 v5 fun v6 v7 =>
        r0 v2 v3 v6 v7
      else
        none
    else
      none
  else
    none

/-- loop.example/g01297/spec.l02Sine -/
def spec_l02Sine {α : Type} (k : Nat) (x : Int) (x1 : Int) (x2 : Int) (x3 : Int) (r0 : Int → Option α) : Option α :=
  spec_l01Det k x x1 x2 x3 fun v =>
  r0 (max v (w64 (0 - v)))

/-- loop.example/g01297/spec.SinesOf -/
def spec_SinesOf {α : Type} (k : Nat) (t : Int) (t1 : Int) (t2 : Int) (t3 : Int) (t4 : Int) (t5 : Int) (r0 : Int → Option α) (r1 : List Int → Int → Option α) : Option α :=
  spec_l04Is k t t1 t2 t3 t4 t5 fun v =>
  bif (!v) then
    r0 1
  else
    spec_l04Corner k t t1 t2 t3 t4 t5 0 fun v1 v2 v3 v4 =>
    spec_l02Sine k v1 v2 v3 v4 fun v5 =>
    spec_l04Corner k t t1 t2 t3 t4 t5 1 fun v6 v7 v8 v9 =>
    spec_l02Sine k v6 v7 v8 v9 fun v10 =>
    spec_l04Corner k t t1 t2 t3 t4 t5 2 fun v11 v12 v13 v14 =>
    spec_l02Sine k v11 v12 v13 v14 fun v15 =>
    r1 [v5, v10, v15] 0

/-- loop.example/g01297/laws.likeInts -/
def laws_likeInts_0N_1N {α : Type} (k : Nat)  (r0 : Bool → Option α) : Option α :=
  r0 true

/-- loop.example/g01297/spec.DrawCornerAt -/
def spec_DrawCornerAt {α : Type} (k : Nat) (code : List Int) (r0 : Int → Int → Int → Int → Int → Int → Int → Option α) : Option α :=
  spec_l01From k code fun v v1 =>
  spec_l04Spoil k code v v1 fun v2 v3 v4 v5 v6 v7 v8 v9 =>
  spec_l01Next k code v8 v9 16 fun v10 v11 v12 =>
  spec_l01Next k code v11 v12 (w64 (3 + (w64 (Int.tdiv v10 15)))) fun v13 _ _ =>
  r0 v2 v3 v4 v5 v6 v7 v13

/-- loop.example/g01297/impl.CornerAt -/
def impl_CornerAt {α : Type} (k : Nat) (t : Int) (t1 : Int) (t2 : Int) (t3 : Int) (t4 : Int) (t5 : Int) (i : Int) (r0 : Int → Int → Int → Int → Int → Option α) : Option α :=
  impl_IsTriangle k t t1 t2 t3 t4 t5 fun v =>
  bif (!v) then
    r0 0 0 0 0 1
  else
    impl_in k i 0 2 fun v1 =>
    bif (!v1) then
      r0 0 0 0 0 2
    else
      impl_Triangle_corner k t t1 t2 t3 t4 t5 i fun v2 v3 v4 v5 =>
      r0 v2 v3 v4 v5 0

/-- loop.example/g01297/spec.CornerAt -/
def spec_CornerAt {α : Type} (k : Nat) (t : Int) (t1 : Int) (t2 : Int) (t3 : Int) (t4 : Int) (t5 : Int) (i : Int) (r0 : Int → Int → Int → Int → Int → Option α) : Option α :=
  spec_l04Is k t t1 t2 t3 t4 t5 fun v =>
  bif (!v) then
    r0 0 0 0 0 1
  else
    spec_l01In k i 0 2 fun v1 =>
    bif (!v1) then
      r0 0 0 0 0 2
    else
      spec_l04Corner k t t1 t2 t3 t4 t5 i fun v2 v3 v4 v5 =>
      r0 v2 v3 v4 v5 0

/-- loop.example/g01297/spec.l01Near -/
def spec_l01Near {α : Type} (k : Nat) (s : List Int) (s1 : Int) (s2 : Int) (most : Int) (r0 : Int → Int → Int → Option α) : Option α :=
  spec_l01Next k s s1 s2 14 fun v v1 v2 =>
  bif decide (v = 0) then
    spec_l01Pick k s v1 v2 [(-1), (w64 (most + 1)), 1099511627776, (-4611686018427387904)] fun v3 v4 v5 =>
    r0 v3 v4 v5
  else
    spec_l01Next k s v1 v2 (w64 (most + 1)) fun v6 v7 v8 =>
    r0 v6 v7 v8

/-- loop.example/g01297/spec.DrawMultipleOf -/
def spec_DrawMultipleOf {α : Type} (k : Nat) (code : List Int) (r0 : Int → Int → Int → Int → Int → Int → Int → Option α) : Option α :=
  spec_l01From k code fun v v1 =>
  spec_l04Small k code v v1 fun v2 v3 v4 v5 v6 v7 v8 v9 =>
  spec_l01Near k code v8 v9 1000 fun v10 v11 v12 =>
  spec_l01Pick k code v11 v12 [1, 2, 3, v10] fun v13 _ _ =>
  r0 v2 v3 v4 v5 v6 v7 v13

/-- loop.example/g01297/impl.MultipleOf -/
def impl_MultipleOf {α : Type} (k : Nat) (t : Int) (t1 : Int) (t2 : Int) (t3 : Int) (t4 : Int) (t5 : Int) (k_ : Int) (r0 : Int → Int → Int → Int → Int → Int → Int → Option α) : Option α :=
  impl_IsTriangle k t t1 t2 t3 t4 t5 fun v =>
  bif (!v) then
    r0 0 0 0 0 0 0 1
  else
    impl_in k k_ 1 1000 fun v1 =>
    bif (!v1) then
      r0 0 0 0 0 0 0 2
    else
      impl_Point_plus k 0 0 t t1 k_ fun v2 v3 =>
      impl_Point_plus k 0 0 t2 t3 k_ fun v4 v5 =>
      impl_Point_plus k 0 0 t4 t5 k_ fun v6 v7 =>
      impl_IsTriangle k v2 v3 v4 v5 v6 v7 fun v8 =>
      bif (!v8) then
        r0 0 0 0 0 0 0 3
      else
        r0 v2 v3 v4 v5 v6 v7 0

/-- loop.example/g01297/spec.MultipleOf -/
def spec_MultipleOf {α : Type} (k : Nat) (t : Int) (t1 : Int) (t2 : Int) (t3 : Int) (t4 : Int) (t5 : Int) (k_ : Int) (r0 : Int → Int → Int → Int → Int → Int → Int → Option α) : Option α :=
  spec_l04Is k t t1 t2 t3 t4 t5 fun v =>
  bif (!v) then
    r0 0 0 0 0 0 0 1
  else
    spec_l01In k k_ 1 1000 fun v1 =>
    bif (!v1) then
      r0 0 0 0 0 0 0 2
    else
      spec_l04Is k (w64 (k_ * t)) (w64 (k_ * t1)) (w64 (k_ * t2)) (w64 (k_ * t3)) (w64 (k_ * t4)) (w64 (k_ * t5)) fun v2 =>
      bif (!v2) then
        r0 0 0 0 0 0 0 3
      else
        r0 (w64 (k_ * t)) (w64 (k_ * t1)) (w64 (k_ * t2)) (w64 (k_ * t3)) (w64 (k_ * t4)) (w64 (k_ * t5)) 0

/-- loop.example/g01297/spec.DrawSplitTriangle -/
def spec_DrawSplitTriangle {α : Type} (k : Nat) (code : List Int) (r0 : Int → Int → Int → Int → Int → Int → Int → Option α) : Option α :=
  spec_l01From k code fun v v1 =>
  spec_l04Spoil k code v v1 fun v2 v3 v4 v5 v6 v7 v8 v9 =>
  spec_l01Next k code v8 v9 16 fun v10 v11 v12 =>
  spec_l01Next k code v11 v12 (w64 (3 + (w64 (Int.tdiv v10 15)))) fun v13 v14 v15 =>
  spec_l01Next k code v14 v15 3 fun v16 _ _ =>
  bif decide (0 < v16) then
    r0 (w64 ((w64 (Int.tdiv v2 2)) * 2)) (w64 ((w64 (Int.tdiv v3 2)) * 2)) (w64 ((w64 (Int.tdiv v4 2)) * 2)) (w64 ((w64 (Int.tdiv v5 2)) * 2)) (w64 ((w64 (Int.tdiv v6 2)) * 2)) (w64 ((w64 (Int.tdiv v7 2)) * 2)) v13
  else
    r0 v2 v3 v4 v5 v6 v7 v13

/-- loop.example/g01297/impl.SplitTriangle -/
def impl_SplitTriangle {α : Type} (k : Nat) (t : Int) (t1 : Int) (t2 : Int) (t3 : Int) (t4 : Int) (t5 : Int) (i : Int) (r0 : Int → Option α) (r1 : (List (Int × Int × Int × Int × Int × Int)) → Int → Option α) : Option α :=
  impl_IsTriangle k t t1 t2 t3 t4 t5 fun v =>
  bif (!v) then
    r0 1
  else
    impl_in k i 0 2 fun v1 =>
    bif (!v1) then
      r0 2
    else
    bif (decide (0 ≤ (Int.tmod (w64 (i + 1)) 3)) && decide ((Int.tmod (w64 (i + 1)) 3) < 3)) then
      ([t, t1, t2, t3, t4, t5][((Int.tmod (w64 (i + 1)) 3).toNat * 2)]?).bind fun e_ =>
      ([t, t1, t2, t3, t4, t5][(((Int.tmod (w64 (i + 1)) 3).toNat * 2) + 1)]?).bind fun e_1 =>
      bif (decide (0 ≤ (Int.tmod (w64 (i + 2)) 3)) && decide ((Int.tmod (w64 (i + 2)) 3) < 3)) then
        ([t, t1, t2, t3, t4, t5][((Int.tmod (w64 (i + 2)) 3).toNat * 2)]?).bind fun e_2 =>
        ([t, t1, t2, t3, t4, t5][(((Int.tmod (w64 (i + 2)) 3).toNat * 2) + 1)]?).bind fun e_3 =>
        impl_Point_plus k e_ e_1 e_2 e_3 1 fun v2 v3 =>
        bif (!decide ((Int.tmod v2 2) = 0)) then
          r0 5
        else
        bif (!decide ((Int.tmod v3 2) = 0)) then
          r0 5
        else
        bif (decide (0 ≤ (Int.tmod (w64 (i + 1)) 3)) && decide ((Int.tmod (w64 (i + 1)) 3) < 3)) then
          bif Nat.ble (((Int.tmod (w64 (i + 1)) 3).toNat * 2) + 2) 6 then
            bif (decide (0 ≤ (Int.tmod (w64 (i + 2)) 3)) && decide ((Int.tmod (w64 (i + 2)) 3) < 3)) then
              bif Nat.ble (((Int.tmod (w64 (i + 2)) 3).toNat * 2) + 2) 6 then
                r1 [(bif Nat.beq ((Int.tmod (w64 (i + 1)) 3).toNat * 2) 4 then (t, t1, t2, t3, (w64 (Int.tdiv v2 2)), (w64 (Int.tdiv v3 2))) else bif Nat.beq ((Int.tmod (w64 (i + 1)) 3).toNat * 2) 3 then (t, t1, t2, (w64 (Int.tdiv v2 2)), (w64 (Int.tdiv v3 2)), t5) else bif Nat.beq ((Int.tmod (w64 (i + 1)) 3).toNat * 2) 2 then (t, t1, (w64 (Int.tdiv v2 2)), (w64 (Int.tdiv v3 2)), t4, t5) else bif Nat.beq ((Int.tmod (w64 (i + 1)) 3).toNat * 2) 1 then (t, (w64 (Int.tdiv v2 2)), (w64 (Int.tdiv v3 2)), t3, t4, t5) else bif Nat.beq ((Int.tmod (w64 (i + 1)) 3).toNat * 2) 0 then ((w64 (Int.tdiv v2 2)), (w64 (Int.tdiv v3 2)), t2, t3, t4, t5) else (t, t1, t2, t3, t4, t5)), (bif Nat.beq ((Int.tmod (w64 (i + 2)) 3).toNat * 2) 4 then (t, t1, t2, t3, (w64 (Int.tdiv v2 2)), (w64 (Int.tdiv v3 2))) else bif Nat.beq ((Int.tmod (w64 (i + 2)) 3).toNat * 2) 3 then (t, t1, t2, (w64 (Int.tdiv v2 2)), (w64 (Int.tdiv v3 2)), t5) else bif Nat.beq ((Int.tmod (w64 (i + 2)) 3).toNat * 2) 2 then (t, t1, (w64 (Int.tdiv v2 2)), (w64 (Int.tdiv v3 2)), t4, t5) else bif Nat.beq ((Int.tmod (w64 (i + 2)) 3).toNat * 2) 1 then (t, (w64 (Int.tdiv v2 2)), (w64 (Int.tdiv v3 2)), t3, t4, t5) else bif Nat.beq ((Int.tmod (w64 (i + 2)) 3).toNat * 2) 0 then ((w64 (Int.tdiv v2 2)), (w64 (Int.tdiv v3 2)), t2, t3, t4, t5) else (t, t1, t2, t3, t4, t5))] 0
              else
                none
            else
              none
          else
            none
        else
          none
      else
        none
    else
      none

/-- loop.example/g01297/spec.SplitTriangle -/
def spec_SplitTriangle {α : Type} (k : Nat) (t : Int) (t1 : Int) (t2 : Int) (t3 : Int) (t4 : Int) (t5 : Int) (i : Int) (r0 : Int → Option α) (r1 : (List (Int × Int × Int × Int × Int × Int)) → Int → Option α) : Option α :=
  spec_l04Is k t t1 t2 t3 t4 t5 fun v =>
  bif (!v) then
    r0 1
  else
    spec_l01In k i 0 2 fun v1 =>
    bif (!v1) then
      r0 2
    else
    bif (decide (0 ≤ (Int.tmod (w64 (i + 1)) 3)) && decide ((Int.tmod (w64 (i + 1)) 3) < 3)) then
      ([t, t1, t2, t3, t4, t5][((Int.tmod (w64 (i + 1)) 3).toNat * 2)]?).bind fun e_ =>
      ([t, t1, t2, t3, t4, t5][(((Int.tmod (w64 (i + 1)) 3).toNat * 2) + 1)]?).bind fun e_1 =>
      bif (decide (0 ≤ (Int.tmod (w64 (i + 2)) 3)) && decide ((Int.tmod (w64 (i + 2)) 3) < 3)) then
        ([t, t1, t2, t3, t4, t5][((Int.tmod (w64 (i + 2)) 3).toNat * 2)]?).bind fun e_2 =>
        ([t, t1, t2, t3, t4, t5][(((Int.tmod (w64 (i + 2)) 3).toNat * 2) + 1)]?).bind fun e_3 =>
        spec_l01Plus k e_ e_1 e_2 e_3 1 fun v2 v3 =>
        bif (!decide ((Int.tmod v2 2) = 0)) then
          r0 5
        else
        bif (!decide ((Int.tmod v3 2) = 0)) then
          r0 5
        else
        bif (decide (0 ≤ (Int.tmod (w64 (i + 1)) 3)) && decide ((Int.tmod (w64 (i + 1)) 3) < 3)) then
          ([t, t1, t2, t3, t4, t5][((Int.tmod (w64 (i + 1)) 3).toNat * 2)]?).bind fun _ =>
          ((List.set [t, t1, t2, t3, t4, t5] ((Int.tmod (w64 (i + 1)) 3).toNat * 2) (w64 (Int.tdiv v2 2)))[(((Int.tmod (w64 (i + 1)) 3).toNat * 2) + 1)]?).bind fun _ =>
          bif (decide (0 ≤ (Int.tmod (w64 (i + 2)) 3)) && decide ((Int.tmod (w64 (i + 2)) 3) < 3)) then
            ([t, t1, t2, t3, t4, t5][((Int.tmod (w64 (i + 2)) 3).toNat * 2)]?).bind fun _ =>
            ((List.set [t, t1, t2, t3, t4, t5] ((Int.tmod (w64 (i + 2)) 3).toNat * 2) (w64 (Int.tdiv v2 2)))[(((Int.tmod (w64 (i + 2)) 3).toNat * 2) + 1)]?).bind fun _ =>
            ((List.set (List.set [t, t1, t2, t3, t4, t5] ((Int.tmod (w64 (i + 1)) 3).toNat * 2) (w64 (Int.tdiv v2 2))) (((Int.tmod (w64 (i + 1)) 3).toNat * 2) + 1) (w64 (Int.tdiv v3 2)))[0]?).bind fun e_4 =>
            ((List.set (List.set [t, t1, t2, t3, t4, t5] ((Int.tmod (w64 (i + 1)) 3).toNat * 2) (w64 (Int.tdiv v2 2))) (((Int.tmod (w64 (i + 1)) 3).toNat * 2) + 1) (w64 (Int.tdiv v3 2)))[1]?).bind fun e_5 =>
            ((List.set (List.set [t, t1, t2, t3, t4, t5] ((Int.tmod (w64 (i + 1)) 3).toNat * 2) (w64 (Int.tdiv v2 2))) (((Int.tmod (w64 (i + 1)) 3).toNat * 2) + 1) (w64 (Int.tdiv v3 2)))[2]?).bind fun e_6 =>
            ((List.set (List.set [t, t1, t2, t3, t4, t5] ((Int.tmod (w64 (i + 1)) 3).toNat * 2) (w64 (Int.tdiv v2 2))) (((Int.tmod (w64 (i + 1)) 3).toNat * 2) + 1) (w64 (Int.tdiv v3 2)))[3]?).bind fun e_7 =>
            ((List.set (List.set [t, t1, t2, t3, t4, t5] ((Int.tmod (w64 (i + 1)) 3).toNat * 2) (w64 (Int.tdiv v2 2))) (((Int.tmod (w64 (i + 1)) 3).toNat * 2) + 1) (w64 (Int.tdiv v3 2)))[4]?).bind fun e_8 =>
            ((List.set (List.set [t, t1, t2, t3, t4, t5] ((Int.tmod (w64 (i + 1)) 3).toNat * 2) (w64 (Int.tdiv v2 2))) (((Int.tmod (w64 (i + 1)) 3).toNat * 2) + 1) (w64 (Int.tdiv v3 2)))[5]?).bind fun e_9 =>
            ((List.set (List.set [t, t1, t2, t3, t4, t5] ((Int.tmod (w64 (i + 2)) 3).toNat * 2) (w64 (Int.tdiv v2 2))) (((Int.tmod (w64 (i + 2)) 3).toNat * 2) + 1) (w64 (Int.tdiv v3 2)))[0]?).bind fun e_10 =>
            ((List.set (List.set [t, t1, t2, t3, t4, t5] ((Int.tmod (w64 (i + 2)) 3).toNat * 2) (w64 (Int.tdiv v2 2))) (((Int.tmod (w64 (i + 2)) 3).toNat * 2) + 1) (w64 (Int.tdiv v3 2)))[1]?).bind fun e_11 =>
            ((List.set (List.set [t, t1, t2, t3, t4, t5] ((Int.tmod (w64 (i + 2)) 3).toNat * 2) (w64 (Int.tdiv v2 2))) (((Int.tmod (w64 (i + 2)) 3).toNat * 2) + 1) (w64 (Int.tdiv v3 2)))[2]?).bind fun e_12 =>
            ((List.set (List.set [t, t1, t2, t3, t4, t5] ((Int.tmod (w64 (i + 2)) 3).toNat * 2) (w64 (Int.tdiv v2 2))) (((Int.tmod (w64 (i + 2)) 3).toNat * 2) + 1) (w64 (Int.tdiv v3 2)))[3]?).bind fun e_13 =>
            ((List.set (List.set [t, t1, t2, t3, t4, t5] ((Int.tmod (w64 (i + 2)) 3).toNat * 2) (w64 (Int.tdiv v2 2))) (((Int.tmod (w64 (i + 2)) 3).toNat * 2) + 1) (w64 (Int.tdiv v3 2)))[4]?).bind fun e_14 =>
            ((List.set (List.set [t, t1, t2, t3, t4, t5] ((Int.tmod (w64 (i + 2)) 3).toNat * 2) (w64 (Int.tdiv v2 2))) (((Int.tmod (w64 (i + 2)) 3).toNat * 2) + 1) (w64 (Int.tdiv v3 2)))[5]?).bind fun e_15 =>
            r1 [(e_4, e_5, e_6, e_7, e_8, e_9), (e_10, e_11, e_12, e_13, e_14, e_15)] 0
          else
            none
        else
          none
      else
        none
    else
      none

/-- loop.example/g01297/laws.likeInts -/
def laws_likeInts_0N {α : Type} (k : Nat) (b_ : List Int) (r0 : Bool → Option α) : Option α :=
  bif (!decide (0 = (((List.length b_) : Nat) : Int))) then
    r0 false
  else
    r0 true

def laws_likeInts_1N_l4 {α : Type} : Nat → Int → List Int → (Int → List Int → Option α) → (Bool → Option α) → Option α
  | 0, _, _, _, _ => none
  | k + 1, i, a1, b0, r0 =>
    bif decide (i < (((List.length a1) : Nat) : Int)) then
      bif (decide (0 ≤ i) && decide (i < (((List.length a1) : Nat) : Int))) then
        (a1[i.toNat]?).bind fun _ =>
        none
      else
        none
    else
      b0 i a1

/-- loop.example/g01297/laws.likeInts -/
def laws_likeInts_1N {α : Type} (k : Nat) (a : List Int) (r0 : Bool → Option α) : Option α :=
  bif (!decide ((((List.length a) : Nat) : Int) = 0)) then
    r0 false
  else
    laws_likeInts_1N_l4 k 0 a
      (fun _ _ =>
        r0 true)
      r0

def laws_likeInts_l4 {α : Type} : Nat → Int → List Int → List Int → (Int → List Int → List Int → Option α) → (Bool → Option α) → Option α
  | 0, _, _, _, _, _ => none
  | k + 1, i, a1, b_1, b0, r0 =>
    bif decide (i < (((List.length a1) : Nat) : Int)) then
      bif (decide (0 ≤ i) && decide (i < (((List.length a1) : Nat) : Int))) then
        (a1[i.toNat]?).bind fun e_ =>
        bif (decide (0 ≤ i) && decide (i < (((List.length b_1) : Nat) : Int))) then
          (b_1[i.toNat]?).bind fun e_1 =>
          bif (!decide (e_ = e_1)) then
            r0 false
          else
            laws_likeInts_l4 k (w64 (i + 1)) a1 b_1 b0 r0
        else
          none
      else
        none
    else
      b0 i a1 b_1

/-- loop.example/g01297/laws.likeInts -/
def laws_likeInts {α : Type} (k : Nat) (a : List Int) (b_ : List Int) (r0 : Bool → Option α) : Option α :=
  bif (!decide ((((List.length a) : Nat) : Int) = (((List.length b_) : Nat) : Int))) then
    r0 false
  else
    laws_likeInts_l4 k 0 a b_
      (fun _ _ _ =>
        r0 true)
      r0

/-- loop.example/g01297/laws.points9 -/
def laws_points9_0N {α : Type} (k : Nat) (b_ : List (Int × Int)) (r0 : Bool → Option α) : Option α :=
  bif (!decide (0 = (((List.length b_) : Nat) : Int))) then
    r0 false
  else
    r0 true

def laws_points9_1N_l4 {α : Type} : Nat → Int → (List (Int × Int)) → (Int → (List (Int × Int)) → Option α) → (Bool → Option α) → Option α
  | 0, _, _, _, _ => none
  | k + 1, i, a1, b0, r0 =>
    bif decide (i < (((List.length a1) : Nat) : Int)) then
      bif (decide (0 ≤ i) && decide (i < (((List.length a1) : Nat) : Int))) then
        (a1[i.toNat]?).bind fun _ =>
        none
      else
        none
    else
      b0 i a1

/-- loop.example/g01297/laws.points9 -/
def laws_points9_1N {α : Type} (k : Nat) (a : List (Int × Int)) (r0 : Bool → Option α) : Option α :=
  bif (!decide ((((List.length a) : Nat) : Int) = 0)) then
    r0 false
  else
    laws_points9_1N_l4 k 0 a
      (fun _ _ =>
        r0 true)
      r0

def laws_points9_l4 {α : Type} : Nat → Int → (List (Int × Int)) → (List (Int × Int)) → (Int → (List (Int × Int)) → (List (Int × Int)) → Option α) → (Bool → Option α) → Option α
  | 0, _, _, _, _, _ => none
  | k + 1, i, a1, b_1, b0, r0 =>
    bif decide (i < (((List.length a1) : Nat) : Int)) then
      bif (decide (0 ≤ i) && decide (i < (((List.length a1) : Nat) : Int))) then
        (a1[i.toNat]?).bind fun e_ =>
        bif (decide (0 ≤ i) && decide (i < (((List.length b_1) : Nat) : Int))) then
          (b_1[i.toNat]?).bind fun e_1 =>
          bif (!(decide (e_.1 = e_1.1) && decide (e_.2 = e_1.2))) then
            r0 false
          else
            laws_points9_l4 k (w64 (i + 1)) a1 b_1 b0 r0
        else
          none
      else
        none
    else
      b0 i a1 b_1

/-- loop.example/g01297/laws.points9 -/
def laws_points9 {α : Type} (k : Nat) (a : List (Int × Int)) (b_ : List (Int × Int)) (r0 : Bool → Option α) : Option α :=
  bif (!decide ((((List.length a) : Nat) : Int) = (((List.length b_) : Nat) : Int))) then
    r0 false
  else
    laws_points9_l4 k 0 a b_
      (fun _ _ _ =>
        r0 true)
      r0

def laws_FnTriangles_l41 {α : Type} : Nat → Int → Int → Int → Int → Int → Int → Int → Int → Int → Int → Int → Int → Int → Int → Int → (List (Int × Int)) → Int → Int → Int → Int → Int → Int → Int → Int → Int → Int → Int → Int → Int → Int → Int → Int → Int → Int → (List (Int × Int × Int × Int × Int × Int)) → (List (Int × Int × Int × Int × Int × Int)) → (Int → Int → Int → Int → Int → Int → Int → Int → Int → Int → Int → Int → Int → Int → Int → (List (Int × Int)) → Int → Int → Int → Int → Int → Int → Int → Int → Int → Int → Int → Int → Int → Int → Int → Int → Int → Int → (List (Int × Int × Int × Int × Int × Int)) → (List (Int × Int × Int × Int × Int × Int)) → Option α) → (Bool → Option α) → Option α
  | 0, _, _, _, _, _, _, _, _, _, _, _, _, _, _, _, _, _, _, _, _, _, _, _, _, _, _, _, _, _, _, _, _, _, _, _, _, _, _ => none
  | k + 1, one, count, two, area, boundary, k_, seven, eight, n_, t, t1, t2, t3, t4, t5, inner, w, w1, w2, w3, w4, w5, multiple, multiple1, multiple2, multiple3, multiple4, multiple5, x, x1, x2, x3, x4, x5, parts, due, b0, r0 =>
    bif decide (n_ < (((List.length parts) : Nat) : Int)) then
      bif (decide (0 ≤ n_) && decide (n_ < (((List.length parts) : Nat) : Int))) then
        (parts[n_.toNat]?).bind fun e_ =>
        bif (decide (0 ≤ n_) && decide (n_ < (((List.length due) : Nat) : Int))) then
          (due[n_.toNat]?).bind fun e_1 =>
          bif (!(decide (e_.1 = e_1.1) && (decide (e_.2.1 = e_1.2.1) && (decide (e_.2.2.1 = e_1.2.2.1) && (decide (e_.2.2.2.1 = e_1.2.2.2.1) && (decide (e_.2.2.2.2.1 = e_1.2.2.2.2.1) && decide (e_.2.2.2.2.2 = e_1.2.2.2.2.2))))))) then
            r0 false
          else
            laws_FnTriangles_l41 k one count two area boundary k_ seven eight (w64 (n_ + 1)) t t1 t2 t3 t4 t5 inner w w1 w2 w3 w4 w5 multiple multiple1 multiple2 multiple3 multiple4 multiple5 x x1 x2 x3 x4 x5 parts due b0 r0
        else
          none
      else
        none
    else
      b0 one count two area boundary k_ seven eight n_ t t1 t2 t3 t4 t5 inner w w1 w2 w3 w4 w5 multiple multiple1 multiple2 multiple3 multiple4 multiple5 x x1 x2 x3 x4 x5 parts due

/-- loop.example/g01297/laws.FnTriangles -/
def laws_FnTriangles_b0 {α : Type} (F0 : Nat → List Int → (Bool → Option α) → Option α) (F1 : Nat → List Int → (Int → Int → Int → Int → Int → Int → Option α) → Option α) (F2 : Nat → Int → Int → Int → Int → Int → Int → (Int → Option α) → ((List (Int × Int)) → Int → Option α) → Option α) (k : Nat) (code : List Int) (κ5 : Int → List Int → Int → Int → Int → Int → Int → Int → (List (Int × Int)) → Option α) (r0 : Bool → Option α) : Option α :=
  F0 k code fun v =>
  bif v then
    r0 true
  else
    F1 k code fun v1 v2 v3 v4 v5 v6 =>
    F2 k v1 v2 v3 v4 v5 v6
      (fun v7 =>
        κ5 v7 code v1 v2 v3 v4 v5 v6 [])
      (fun v8 v9 =>
        κ5 v9 code v1 v2 v3 v4 v5 v6 v8)
def laws_FnTriangles_b1 {α : Type} (F3 : Nat → Int → Int → Int → Int → Int → Int → (Int → Option α) → ((List (Int × Int)) → Int → Option α) → Option α) (k : Nat) (one : Int) (code1 : List Int) (t : Int) (t1 : Int) (t2 : Int) (t3 : Int) (t4 : Int) (t5 : Int) (inner : List (Int × Int)) (κ6 : Int → Int → List Int → Int → Int → Int → Int → Int → Int → (List (Int × Int)) → (List (Int × Int)) → Option α) (r0 : Bool → Option α) : Option α :=
  F3 k t t1 t2 t3 t4 t5
    (fun v10 =>
      κ6 one v10 code1 t t1 t2 t3 t4 t5 inner [])
    (fun v11 v12 =>
      κ6 one v12 code1 t t1 t2 t3 t4 t5 inner v11)
def laws_FnTriangles_b2 {α : Type} (F5 : Nat → Int → Int → Int → Int → Int → Int → (Bool → Option α) → Option α) (F6 : Nat → Int → Int → Int → Int → Int → Int → (Bool → Option α) → Option α) (F31 : Nat → (List (Int × Int)) → (List (Int × Int)) → (Bool → Option α) → Option α) (k : Nat) (one1 : Int) (want : Int) (code2 : List Int) (t6 : Int) (t7 : Int) (t8 : Int) (t9 : Int) (t10 : Int) (t11 : Int) (inner1 : List (Int × Int)) (due : List (Int × Int)) (κ7 : Option α) (κ8 : Int → List Int → Int → Int → Int → Int → Int → Int → (List (Int × Int)) → Option α) (r0 : Bool → Option α) : Option α :=
  bif (!decide (one1 = want)) then
    κ7
  else
    F31 k inner1 due fun v13 =>
    bif (!v13) then
      κ7
    else
      F5 k t6 t7 t8 t9 t10 t11 fun v14 =>
      F6 k t6 t7 t8 t9 t10 t11 fun v15 =>
      bif (!(v14 == v15)) then
        κ7
      else
        κ8 one1 code2 t6 t7 t8 t9 t10 t11 inner1
def laws_FnTriangles_b3 {α : Type}  (k : Nat)  (r0 : Bool → Option α) : Option α :=
  r0 false
def laws_FnTriangles_b4 {α : Type} (F7 : Nat → List Int → (Int → Int → Int → Int → Int → Int → Option α) → Option α) (F8 : Nat → Int → Int → Int → Int → Int → Int → (Int → Int → Option α) → Option α) (F9 : Nat → Int → Int → Int → Int → Int → Int → (Int → Int → Option α) → Option α) (k : Nat) (one2 : Int) (code3 : List Int) (t12 : Int) (t13 : Int) (t14 : Int) (t15 : Int) (t16 : Int) (t17 : Int) (inner2 : List (Int × Int)) (κ12 : Option α) (κ13 : Int → Int → Int → List Int → Int → Int → Int → Int → Int → Int → (List (Int × Int)) → Int → Int → Int → Int → Int → Int → Option α) (r0 : Bool → Option α) : Option α :=
  F7 k code3 fun v16 v17 v18 v19 v20 v21 =>
  F8 k v16 v17 v18 v19 v20 v21 fun v22 v23 =>
  F9 k v16 v17 v18 v19 v20 v21 fun v24 v25 =>
  bif (!decide (v23 = v25)) then
    κ12
  else
  bif (!decide (v22 = v24)) then
    κ12
  else
    κ13 one2 v22 v23 code3 t12 t13 t14 t15 t16 t17 inner2 v16 v17 v18 v19 v20 v21
def laws_FnTriangles_b5 {α : Type}  (k : Nat)  (r0 : Bool → Option α) : Option α :=
  r0 false
def laws_FnTriangles_b6 {α : Type} (F10 : Nat → Int → Int → Int → Int → Int → Int → (Int → Int → Option α) → Option α) (F11 : Nat → Int → Int → Int → Int → Int → Int → (Int → Int → Option α) → Option α) (k : Nat) (one3 : Int) (count : Int) (two : Int) (code4 : List Int) (t18 : Int) (t19 : Int) (t20 : Int) (t21 : Int) (t22 : Int) (t23 : Int) (inner3 : List (Int × Int)) (u : Int) (u1 : Int) (u2 : Int) (u3 : Int) (u4 : Int) (u5 : Int) (κ16 : Option α) (κ17 : Int → Int → Int → Int → List Int → Int → Int → Int → Int → Int → Int → (List (Int × Int)) → Int → Int → Int → Int → Int → Int → Option α) (r0 : Bool → Option α) : Option α :=
  F10 k u u1 u2 u3 u4 u5 fun v26 v27 =>
  F11 k u u1 u2 u3 u4 u5 fun v28 v29 =>
  bif (!decide (v27 = v29)) then
    κ16
  else
  bif (!decide (v26 = v28)) then
    κ16
  else
    κ17 one3 count two v26 code4 t18 t19 t20 t21 t22 t23 inner3 u u1 u2 u3 u4 u5
def laws_FnTriangles_b7 {α : Type}  (k : Nat)  (r0 : Bool → Option α) : Option α :=
  r0 false
def laws_FnTriangles_b8 {α : Type} (F12 : Nat → Int → Int → Int → Int → Int → Int → (Int → Int → Option α) → Option α) (F13 : Nat → Int → Int → Int → Int → Int → Int → (Int → Int → Option α) → Option α) (k : Nat) (one4 : Int) (count1 : Int) (two1 : Int) (area : Int) (code5 : List Int) (t24 : Int) (t25 : Int) (t26 : Int) (t27 : Int) (t28 : Int) (t29 : Int) (inner4 : List (Int × Int)) (u6 : Int) (u7 : Int) (u8 : Int) (u9 : Int) (u10 : Int) (u11 : Int) (κ20 : Option α) (κ21 : Int → Int → Int → Int → Int → List Int → Int → Int → Int → Int → Int → Int → (List (Int × Int)) → Int → Int → Int → Int → Int → Int → Option α) (r0 : Bool → Option α) : Option α :=
  F12 k u6 u7 u8 u9 u10 u11 fun v30 v31 =>
  F13 k u6 u7 u8 u9 u10 u11 fun v32 v33 =>
  bif (!decide (v31 = v33)) then
    κ20
  else
  bif (!decide (v30 = v32)) then
    κ20
  else
    κ21 one4 count1 two1 area v30 code5 t24 t25 t26 t27 t28 t29 inner4 u6 u7 u8 u9 u10 u11
def laws_FnTriangles_b9 {α : Type}  (k : Nat)  (r0 : Bool → Option α) : Option α :=
  r0 false
def laws_FnTriangles_b10 {α : Type} (F14 : Nat → Int → Int → Int → Int → Int → Int → (Int → Option α) → (List Int → Int → Option α) → Option α) (k : Nat) (one5 : Int) (count2 : Int) (two2 : Int) (area1 : Int) (boundary : Int) (code6 : List Int) (t30 : Int) (t31 : Int) (t32 : Int) (t33 : Int) (t34 : Int) (t35 : Int) (inner5 : List (Int × Int)) (u12 : Int) (u13 : Int) (u14 : Int) (u15 : Int) (u16 : Int) (u17 : Int) (κ22 : Int → Int → Int → Int → Int → Int → List Int → Int → Int → Int → Int → Int → Int → (List (Int × Int)) → Int → Int → Int → Int → Int → Int → List Int → Option α) (r0 : Bool → Option α) : Option α :=
  F14 k u12 u13 u14 u15 u16 u17
    (fun v34 =>
      κ22 one5 count2 two2 area1 boundary v34 code6 t30 t31 t32 t33 t34 t35 inner5 u12 u13 u14 u15 u16 u17 [])
    (fun v35 v36 =>
      κ22 one5 count2 two2 area1 boundary v36 code6 t30 t31 t32 t33 t34 t35 inner5 u12 u13 u14 u15 u16 u17 v35)
def laws_FnTriangles_b11 {α : Type} (F15 : Nat → Int → Int → Int → Int → Int → Int → (Int → Option α) → (List Int → Int → Option α) → Option α) (k : Nat) (one6 : Int) (count3 : Int) (two3 : Int) (area2 : Int) (boundary1 : Int) (five : Int) (code7 : List Int) (t36 : Int) (t37 : Int) (t38 : Int) (t39 : Int) (t40 : Int) (t41 : Int) (inner6 : List (Int × Int)) (u18 : Int) (u19 : Int) (u20 : Int) (u21 : Int) (u22 : Int) (u23 : Int) (sines : List Int) (κ23 : Int → Int → Int → Int → Int → Int → Int → List Int → Int → Int → Int → Int → Int → Int → (List (Int × Int)) → List Int → List Int → Option α) (r0 : Bool → Option α) : Option α :=
  F15 k u18 u19 u20 u21 u22 u23
    (fun v37 =>
      κ23 one6 count3 two3 area2 boundary1 five v37 code7 t36 t37 t38 t39 t40 t41 inner6 sines [])
    (fun v38 v39 =>
      κ23 one6 count3 two3 area2 boundary1 five v39 code7 t36 t37 t38 t39 t40 t41 inner6 sines v38)
def laws_FnTriangles_b12 {α : Type} (F28 : Nat → List Int → List Int → (Bool → Option α) → Option α) (k : Nat) (one7 : Int) (count4 : Int) (two4 : Int) (area3 : Int) (boundary2 : Int) (five1 : Int) (want1 : Int) (code8 : List Int) (t42 : Int) (t43 : Int) (t44 : Int) (t45 : Int) (t46 : Int) (t47 : Int) (inner7 : List (Int × Int)) (sines1 : List Int) (due1 : List Int) (κ24 : Option α) (κ25 : Int → Int → Int → Int → Int → List Int → Int → Int → Int → Int → Int → Int → (List (Int × Int)) → Option α) (r0 : Bool → Option α) : Option α :=
  bif (!decide (five1 = want1)) then
    κ24
  else
    F28 k sines1 due1 fun v40 =>
    bif (!v40) then
      κ24
    else
      κ25 one7 count4 two4 area3 boundary2 code8 t42 t43 t44 t45 t46 t47 inner7
def laws_FnTriangles_b13 {α : Type}  (k : Nat)  (r0 : Bool → Option α) : Option α :=
  r0 false
def laws_FnTriangles_b14 {α : Type} (F17 : Nat → List Int → (Int → Int → Int → Int → Int → Int → Int → Option α) → Option α) (F18 : Nat → Int → Int → Int → Int → Int → Int → Int → (Int → Int → Int → Int → Int → Option α) → Option α) (F19 : Nat → Int → Int → Int → Int → Int → Int → Int → (Int → Int → Int → Int → Int → Option α) → Option α) (k : Nat) (one8 : Int) (count5 : Int) (two5 : Int) (area4 : Int) (boundary3 : Int) (code9 : List Int) (t48 : Int) (t49 : Int) (t50 : Int) (t51 : Int) (t52 : Int) (t53 : Int) (inner8 : List (Int × Int)) (κ29 : Option α) (κ30 : Int → Int → Int → Int → Int → List Int → Int → Int → Int → Int → Int → Int → (List (Int × Int)) → Option α) (r0 : Bool → Option α) : Option α :=
  F17 k code9 fun v41 v42 v43 v44 v45 v46 v47 =>
  F18 k v41 v42 v43 v44 v45 v46 v47 fun v48 v49 v50 v51 v52 =>
  F19 k v41 v42 v43 v44 v45 v46 v47 fun v53 v54 v55 v56 v57 =>
  bif (!decide (v52 = v57)) then
    κ29
  else
  bif (!(decide (v48 = v53) && (decide (v49 = v54) && (decide (v50 = v55) && decide (v51 = v56))))) then
    κ29
  else
    κ30 one8 count5 two5 area4 boundary3 code9 t48 t49 t50 t51 t52 t53 inner8
def laws_FnTriangles_b15 {α : Type}  (k : Nat)  (r0 : Bool → Option α) : Option α :=
  r0 false
def laws_FnTriangles_b16 {α : Type} (F20 : Nat → List Int → (Int → Int → Int → Int → Int → Int → Int → Option α) → Option α) (F21 : Nat → Int → Int → Int → Int → Int → Int → Int → (Int → Int → Int → Int → Int → Int → Int → Option α) → Option α) (F22 : Nat → Int → Int → Int → Int → Int → Int → Int → (Int → Int → Int → Int → Int → Int → Int → Option α) → Option α) (k : Nat) (one9 : Int) (count6 : Int) (two6 : Int) (area5 : Int) (boundary4 : Int) (code10 : List Int) (t54 : Int) (t55 : Int) (t56 : Int) (t57 : Int) (t58 : Int) (t59 : Int) (inner9 : List (Int × Int)) (κ34 : Option α) (κ35 : Int → Int → Int → Int → Int → Int → Int → List Int → Int → Int → Int → Int → Int → Int → (List (Int × Int)) → Int → Int → Int → Int → Int → Int → Int → Int → Int → Int → Int → Int → Option α) (r0 : Bool → Option α) : Option α :=
  F20 k code10 fun v58 v59 v60 v61 v62 v63 v64 =>
  F21 k v58 v59 v60 v61 v62 v63 v64 fun v65 v66 v67 v68 v69 v70 v71 =>
  F22 k v58 v59 v60 v61 v62 v63 v64 fun v72 v73 v74 v75 v76 v77 v78 =>
  bif (!decide (v71 = v78)) then
    κ34
  else
  bif (!(decide (v65 = v72) && (decide (v66 = v73) && (decide (v67 = v74) && (decide (v68 = v75) && (decide (v69 = v76) && decide (v70 = v77))))))) then
    κ34
  else
    κ35 one9 count6 two6 area5 boundary4 v64 v71 code10 t54 t55 t56 t57 t58 t59 inner9 v58 v59 v60 v61 v62 v63 v65 v66 v67 v68 v69 v70
def laws_FnTriangles_b17 {α : Type}  (k : Nat)  (r0 : Bool → Option α) : Option α :=
  r0 false
def laws_FnTriangles_b18 {α : Type} (F23 : Nat → List Int → (Int → Int → Int → Int → Int → Int → Int → Option α) → Option α) (F24 : Nat → Int → Int → Int → Int → Int → Int → Int → (Int → Option α) → ((List (Int × Int × Int × Int × Int × Int)) → Int → Option α) → Option α) (k : Nat) (one10 : Int) (count7 : Int) (two7 : Int) (area6 : Int) (boundary5 : Int) (k_ : Int) (seven : Int) (code11 : List Int) (t60 : Int) (t61 : Int) (t62 : Int) (t63 : Int) (t64 : Int) (t65 : Int) (inner10 : List (Int × Int)) (w : Int) (w1 : Int) (w2 : Int) (w3 : Int) (w4 : Int) (w5 : Int) (multiple : Int) (multiple1 : Int) (multiple2 : Int) (multiple3 : Int) (multiple4 : Int) (multiple5 : Int) (κ37 : Int → Int → Int → Int → Int → Int → Int → Int → Int → Int → Int → Int → Int → Int → Int → (List (Int × Int)) → Int → Int → Int → Int → Int → Int → Int → Int → Int → Int → Int → Int → Int → Int → Int → Int → Int → Int → (List (Int × Int × Int × Int × Int × Int)) → Option α) (r0 : Bool → Option α) : Option α :=
  F23 k code11 fun v79 v80 v81 v82 v83 v84 v85 =>
  F24 k v79 v80 v81 v82 v83 v84 v85
    (fun v86 =>
      κ37 one10 count7 two7 area6 boundary5 k_ seven v85 v86 t60 t61 t62 t63 t64 t65 inner10 w w1 w2 w3 w4 w5 multiple multiple1 multiple2 multiple3 multiple4 multiple5 v79 v80 v81 v82 v83 v84 [])
    (fun v87 v88 =>
      κ37 one10 count7 two7 area6 boundary5 k_ seven v85 v88 t60 t61 t62 t63 t64 t65 inner10 w w1 w2 w3 w4 w5 multiple multiple1 multiple2 multiple3 multiple4 multiple5 v79 v80 v81 v82 v83 v84 v87)
def laws_FnTriangles_b19 {α : Type} (F25 : Nat → Int → Int → Int → Int → Int → Int → Int → (Int → Option α) → ((List (Int × Int × Int × Int × Int × Int)) → Int → Option α) → Option α) (k : Nat) (one11 : Int) (count8 : Int) (two8 : Int) (area7 : Int) (boundary6 : Int) (k_1 : Int) (seven1 : Int) (j : Int) (eight : Int) (t66 : Int) (t67 : Int) (t68 : Int) (t69 : Int) (t70 : Int) (t71 : Int) (inner11 : List (Int × Int)) (w6 : Int) (w7 : Int) (w8 : Int) (w9 : Int) (w10 : Int) (w11 : Int) (multiple6 : Int) (multiple7 : Int) (multiple8 : Int) (multiple9 : Int) (multiple10 : Int) (multiple11 : Int) (x : Int) (x1 : Int) (x2 : Int) (x3 : Int) (x4 : Int) (x5 : Int) (parts : List (Int × Int × Int × Int × Int × Int)) (κ38 : Int → Int → Int → Int → Int → Int → Int → Int → Int → Int → Int → Int → Int → Int → Int → (List (Int × Int)) → Int → Int → Int → Int → Int → Int → Int → Int → Int → Int → Int → Int → Int → Int → Int → Int → Int → Int → (List (Int × Int × Int × Int × Int × Int)) → (List (Int × Int × Int × Int × Int × Int)) → Option α) (r0 : Bool → Option α) : Option α :=
  F25 k x x1 x2 x3 x4 x5 j
    (fun v89 =>
      κ38 one11 count8 two8 area7 boundary6 k_1 seven1 eight v89 t66 t67 t68 t69 t70 t71 inner11 w6 w7 w8 w9 w10 w11 multiple6 multiple7 multiple8 multiple9 multiple10 multiple11 x x1 x2 x3 x4 x5 parts [])
    (fun v90 v91 =>
      κ38 one11 count8 two8 area7 boundary6 k_1 seven1 eight v91 t66 t67 t68 t69 t70 t71 inner11 w6 w7 w8 w9 w10 w11 multiple6 multiple7 multiple8 multiple9 multiple10 multiple11 x x1 x2 x3 x4 x5 parts v90)
def laws_FnTriangles_b20 {α : Type}  (k : Nat) (one12 : Int) (count9 : Int) (two9 : Int) (area8 : Int) (boundary7 : Int) (k_2 : Int) (seven2 : Int) (eight1 : Int) (want2 : Int) (t72 : Int) (t73 : Int) (t74 : Int) (t75 : Int) (t76 : Int) (t77 : Int) (inner12 : List (Int × Int)) (w12 : Int) (w13 : Int) (w14 : Int) (w15 : Int) (w16 : Int) (w17 : Int) (multiple12 : Int) (multiple13 : Int) (multiple14 : Int) (multiple15 : Int) (multiple16 : Int) (multiple17 : Int) (x6 : Int) (x7 : Int) (x8 : Int) (x9 : Int) (x10 : Int) (x11 : Int) (parts1 : List (Int × Int × Int × Int × Int × Int)) (due2 : List (Int × Int × Int × Int × Int × Int)) (κ39 : Option α) (κ40 : Int → Int → Int → Int → Int → Int → Int → Int → Int → Int → Int → Int → Int → Int → (List (Int × Int)) → Int → Int → Int → Int → Int → Int → Int → Int → Int → Int → Int → Int → Int → Int → Int → Int → Int → Int → (List (Int × Int × Int × Int × Int × Int)) → (List (Int × Int × Int × Int × Int × Int)) → Option α) (r0 : Bool → Option α) : Option α :=
  bif (!decide (eight1 = want2)) then
    κ39
  else
  bif (!decide ((((List.length parts1) : Nat) : Int) = (((List.length due2) : Nat) : Int))) then
    κ39
  else
    κ40 one12 count9 two9 area8 boundary7 k_2 seven2 eight1 t72 t73 t74 t75 t76 t77 inner12 w12 w13 w14 w15 w16 w17 multiple12 multiple13 multiple14 multiple15 multiple16 multiple17 x6 x7 x8 x9 x10 x11 parts1 due2
def laws_FnTriangles_b21 {α : Type}  (k : Nat)  (r0 : Bool → Option α) : Option α :=
  r0 false
def laws_FnTriangles_b22 {α : Type} (G41 : Nat → Int → Int → Int → Int → Int → Int → Int → Int → Int → Int → Int → Int → Int → Int → Int → (List (Int × Int)) → Int → Int → Int → Int → Int → Int → Int → Int → Int → Int → Int → Int → Int → Int → Int → Int → Int → Int → (List (Int × Int × Int × Int × Int × Int)) → (List (Int × Int × Int × Int × Int × Int)) → (Int → Int → Int → Int → Int → Int → Int → Int → Int → Int → Int → Int → Int → Int → Int → (List (Int × Int)) → Int → Int → Int → Int → Int → Int → Int → Int → Int → Int → Int → Int → Int → Int → Int → Int → Int → Int → (List (Int × Int × Int × Int × Int × Int)) → (List (Int × Int × Int × Int × Int × Int)) → Option α) → (Bool → Option α) → Option α) (k : Nat) (one13 : Int) (count10 : Int) (two10 : Int) (area9 : Int) (boundary8 : Int) (k_3 : Int) (seven3 : Int) (eight2 : Int) (t78 : Int) (t79 : Int) (t80 : Int) (t81 : Int) (t82 : Int) (t83 : Int) (inner13 : List (Int × Int)) (w18 : Int) (w19 : Int) (w20 : Int) (w21 : Int) (w22 : Int) (w23 : Int) (multiple18 : Int) (multiple19 : Int) (multiple20 : Int) (multiple21 : Int) (multiple22 : Int) (multiple23 : Int) (x12 : Int) (x13 : Int) (x14 : Int) (x15 : Int) (x16 : Int) (x17 : Int) (parts2 : List (Int × Int × Int × Int × Int × Int)) (due3 : List (Int × Int × Int × Int × Int × Int)) (κ45 : Int → Int → Int → Int → Int → Int → Int → Int → Int → Int → Int → Int → Int → Int → (List (Int × Int)) → Int → Int → Int → Int → Int → Int → Int → Int → Int → Int → Int → Int → Int → Int → Int → Int → Int → Int → (List (Int × Int × Int × Int × Int × Int)) → Option α) (r0 : Bool → Option α) : Option α :=
  G41 k one13 count10 two10 area9 boundary8 k_3 seven3 eight2 0 t78 t79 t80 t81 t82 t83 inner13 w18 w19 w20 w21 w22 w23 multiple18 multiple19 multiple20 multiple21 multiple22 multiple23 x12 x13 x14 x15 x16 x17 parts2 due3
    (fun one15 count12 two12 area11 boundary10 k_5 seven5 eight4 _ t90 t91 t92 t93 t94 t95 inner15 w30 w31 w32 w33 w34 w35 multiple30 multiple31 multiple32 multiple33 multiple34 multiple35 x24 x25 x26 x27 x28 x29 parts4 _ =>
      κ45 one15 count12 two12 area11 boundary10 k_5 seven5 eight4 t90 t91 t92 t93 t94 t95 inner15 w30 w31 w32 w33 w34 w35 multiple30 multiple31 multiple32 multiple33 multiple34 multiple35 x24 x25 x26 x27 x28 x29 parts4)
    r0
def laws_FnTriangles_b23 {α : Type}  (k : Nat) (one16 : Int) (count13 : Int) (two13 : Int) (area12 : Int) (boundary11 : Int) (k_6 : Int) (seven6 : Int) (eight5 : Int) (t96 : Int) (t97 : Int) (t98 : Int) (t99 : Int) (t100 : Int) (t101 : Int) (inner16 : List (Int × Int)) (w36 : Int) (w37 : Int) (w38 : Int) (w39 : Int) (w40 : Int) (w41 : Int) (multiple36 : Int) (multiple37 : Int) (multiple38 : Int) (multiple39 : Int) (multiple40 : Int) (multiple41 : Int) (x30 : Int) (x31 : Int) (x32 : Int) (x33 : Int) (x34 : Int) (x35 : Int) (parts5 : List (Int × Int × Int × Int × Int × Int)) (κ47 : Int → Int → Int → Int → Int → Int → Int → Int → Int → Int → (List (Int × Int)) → Int → Int → Int → Int → Int → Int → Int → Int → Int → Int → Int → Int → Int → Int → Int → Int → Int → Int → (List (Int × Int × Int × Int × Int × Int)) → Option α) (r0 : Bool → Option α) : Option α :=
  bif decide (two13 = 0) then
    bif (!decide ((w64 ((w64 ((w64 (2 * count13)) + boundary11)) - 2)) = area12)) then
      r0 false
    else
      κ47 one16 k_6 seven6 eight5 t96 t97 t98 t99 t100 t101 inner16 w36 w37 w38 w39 w40 w41 multiple36 multiple37 multiple38 multiple39 multiple40 multiple41 x30 x31 x32 x33 x34 x35 parts5
  else
    κ47 one16 k_6 seven6 eight5 t96 t97 t98 t99 t100 t101 inner16 w36 w37 w38 w39 w40 w41 multiple36 multiple37 multiple38 multiple39 multiple40 multiple41 x30 x31 x32 x33 x34 x35 parts5
def laws_FnTriangles_b24 {α : Type} (F10 : Nat → Int → Int → Int → Int → Int → Int → (Int → Int → Option α) → Option α) (k : Nat) (one17 : Int) (k_7 : Int) (seven7 : Int) (eight6 : Int) (t102 : Int) (t103 : Int) (t104 : Int) (t105 : Int) (t106 : Int) (t107 : Int) (inner17 : List (Int × Int)) (w42 : Int) (w43 : Int) (w44 : Int) (w45 : Int) (w46 : Int) (w47 : Int) (multiple42 : Int) (multiple43 : Int) (multiple44 : Int) (multiple45 : Int) (multiple46 : Int) (multiple47 : Int) (x36 : Int) (x37 : Int) (x38 : Int) (x39 : Int) (x40 : Int) (x41 : Int) (parts6 : List (Int × Int × Int × Int × Int × Int)) (κ51 : Option α) (κ52 : Int → Int → Int → Int → Int → Int → Int → Int → (List (Int × Int)) → Int → Int → Int → Int → Int → Int → (List (Int × Int × Int × Int × Int × Int)) → Option α) (r0 : Bool → Option α) : Option α :=
  bif decide (seven7 = 0) then
    F10 k w42 w43 w44 w45 w46 w47 fun v92 v93 =>
    F10 k multiple42 multiple43 multiple44 multiple45 multiple46 multiple47 fun v94 v95 =>
    bif (!decide (v93 = 0)) then
      κ51
    else
    bif (!decide (v95 = 0)) then
      κ51
    else
    bif (!decide ((w64 ((w64 (v92 * k_7)) * k_7)) = v94)) then
      κ51
    else
      κ52 one17 eight6 t102 t103 t104 t105 t106 t107 inner17 x36 x37 x38 x39 x40 x41 parts6
  else
    κ52 one17 eight6 t102 t103 t104 t105 t106 t107 inner17 x36 x37 x38 x39 x40 x41 parts6
def laws_FnTriangles_b25 {α : Type}  (k : Nat)  (r0 : Bool → Option α) : Option α :=
  r0 false
def laws_FnTriangles_b26 {α : Type} (F10 : Nat → Int → Int → Int → Int → Int → Int → (Int → Int → Option α) → Option α) (k : Nat) (one18 : Int) (eight7 : Int) (t108 : Int) (t109 : Int) (t110 : Int) (t111 : Int) (t112 : Int) (t113 : Int) (inner18 : List (Int × Int)) (x42 : Int) (x43 : Int) (x44 : Int) (x45 : Int) (x46 : Int) (x47 : Int) (parts7 : List (Int × Int × Int × Int × Int × Int)) (κ57 : Option α) (κ58 : Int → Int → Int → Int → Int → Int → Int → (List (Int × Int)) → Option α) (r0 : Bool → Option α) : Option α :=
  bif decide (eight7 = 0) then
    F10 k x42 x43 x44 x45 x46 x47 fun v96 v97 =>
    bif (true && decide (0 < (((List.length parts7) : Nat) : Int))) then
      (parts7[0]?).bind fun e_2 =>
      F10 k e_2.1 e_2.2.1 e_2.2.2.1 e_2.2.2.2.1 e_2.2.2.2.2.1 e_2.2.2.2.2.2 fun v98 v99 =>
      bif (true && decide (1 < (((List.length parts7) : Nat) : Int))) then
        (parts7[1]?).bind fun e_3 =>
        F10 k e_3.1 e_3.2.1 e_3.2.2.1 e_3.2.2.2.1 e_3.2.2.2.2.1 e_3.2.2.2.2.2 fun v100 v101 =>
        bif (!decide (v97 = 0)) then
          κ57
        else
        bif (!decide (v99 = 0)) then
          κ57
        else
        bif (!decide (v101 = 0)) then
          κ57
        else
        bif (!decide (v98 = v100)) then
          κ57
        else
        bif (!decide ((w64 (v98 + v100)) = v96)) then
          κ57
        else
          κ58 one18 t108 t109 t110 t111 t112 t113 inner18
      else
        none
    else
      none
  else
    κ58 one18 t108 t109 t110 t111 t112 t113 inner18
def laws_FnTriangles_b27 {α : Type}  (k : Nat)  (r0 : Bool → Option α) : Option α :=
  r0 false
def laws_FnTriangles_b28 {α : Type} (F8 : Nat → Int → Int → Int → Int → Int → Int → (Int → Int → Option α) → Option α) (k : Nat) (one19 : Int) (t114 : Int) (t115 : Int) (t116 : Int) (t117 : Int) (t118 : Int) (t119 : Int) (inner19 : List (Int × Int)) (r0 : Bool → Option α) : Option α :=
  bif (!decide (one19 = 0)) then
    r0 (decide ((((List.length inner19) : Nat) : Int) = 0))
  else
    F8 k t114 t115 t116 t117 t118 t119 fun v102 v103 =>
    bif decide (v103 = 0) then
      r0 (decide (v102 = (((List.length inner19) : Nat) : Int)))
    else
      r0 false
def laws_FnTriangles_B28 {α : Type} (k : Nat) (one19 : Int) (t114 : Int) (t115 : Int) (t116 : Int) (t117 : Int) (t118 : Int) (t119 : Int) (inner19 : List (Int × Int)) (r0 : Bool → Option α) : Option α :=
  laws_FnTriangles_b28 impl_CountInner k one19 t114 t115 t116 t117 t118 t119 inner19 r0
def laws_FnTriangles_B27 {α : Type} (k : Nat)  (r0 : Bool → Option α) : Option α :=
  laws_FnTriangles_b27 k r0
def laws_FnTriangles_B26 {α : Type} (k : Nat) (one18 : Int) (eight7 : Int) (t108 : Int) (t109 : Int) (t110 : Int) (t111 : Int) (t112 : Int) (t113 : Int) (inner18 : List (Int × Int)) (x42 : Int) (x43 : Int) (x44 : Int) (x45 : Int) (x46 : Int) (x47 : Int) (parts7 : List (Int × Int × Int × Int × Int × Int)) (r0 : Bool → Option α) : Option α :=
  laws_FnTriangles_b26 impl_AreaOfTriangle k one18 eight7 t108 t109 t110 t111 t112 t113 inner18 x42 x43 x44 x45 x46 x47 parts7 (laws_FnTriangles_B27 k r0) (fun one19 t114 t115 t116 t117 t118 t119 inner19 => laws_FnTriangles_B28 k one19 t114 t115 t116 t117 t118 t119 inner19 r0) r0
def laws_FnTriangles_B25 {α : Type} (k : Nat)  (r0 : Bool → Option α) : Option α :=
  laws_FnTriangles_b25 k r0
def laws_FnTriangles_B24 {α : Type} (k : Nat) (one17 : Int) (k_7 : Int) (seven7 : Int) (eight6 : Int) (t102 : Int) (t103 : Int) (t104 : Int) (t105 : Int) (t106 : Int) (t107 : Int) (inner17 : List (Int × Int)) (w42 : Int) (w43 : Int) (w44 : Int) (w45 : Int) (w46 : Int) (w47 : Int) (multiple42 : Int) (multiple43 : Int) (multiple44 : Int) (multiple45 : Int) (multiple46 : Int) (multiple47 : Int) (x36 : Int) (x37 : Int) (x38 : Int) (x39 : Int) (x40 : Int) (x41 : Int) (parts6 : List (Int × Int × Int × Int × Int × Int)) (r0 : Bool → Option α) : Option α :=
  laws_FnTriangles_b24 impl_AreaOfTriangle k one17 k_7 seven7 eight6 t102 t103 t104 t105 t106 t107 inner17 w42 w43 w44 w45 w46 w47 multiple42 multiple43 multiple44 multiple45 multiple46 multiple47 x36 x37 x38 x39 x40 x41 parts6 (laws_FnTriangles_B25 k r0) (fun one18 eight7 t108 t109 t110 t111 t112 t113 inner18 x42 x43 x44 x45 x46 x47 parts7 => laws_FnTriangles_B26 k one18 eight7 t108 t109 t110 t111 t112 t113 inner18 x42 x43 x44 x45 x46 x47 parts7 r0) r0
def laws_FnTriangles_B23 {α : Type} (k : Nat) (one16 : Int) (count13 : Int) (two13 : Int) (area12 : Int) (boundary11 : Int) (k_6 : Int) (seven6 : Int) (eight5 : Int) (t96 : Int) (t97 : Int) (t98 : Int) (t99 : Int) (t100 : Int) (t101 : Int) (inner16 : List (Int × Int)) (w36 : Int) (w37 : Int) (w38 : Int) (w39 : Int) (w40 : Int) (w41 : Int) (multiple36 : Int) (multiple37 : Int) (multiple38 : Int) (multiple39 : Int) (multiple40 : Int) (multiple41 : Int) (x30 : Int) (x31 : Int) (x32 : Int) (x33 : Int) (x34 : Int) (x35 : Int) (parts5 : List (Int × Int × Int × Int × Int × Int)) (r0 : Bool → Option α) : Option α :=
  laws_FnTriangles_b23 k one16 count13 two13 area12 boundary11 k_6 seven6 eight5 t96 t97 t98 t99 t100 t101 inner16 w36 w37 w38 w39 w40 w41 multiple36 multiple37 multiple38 multiple39 multiple40 multiple41 x30 x31 x32 x33 x34 x35 parts5 (fun one17 k_7 seven7 eight6 t102 t103 t104 t105 t106 t107 inner17 w42 w43 w44 w45 w46 w47 multiple42 multiple43 multiple44 multiple45 multiple46 multiple47 x36 x37 x38 x39 x40 x41 parts6 => laws_FnTriangles_B24 k one17 k_7 seven7 eight6 t102 t103 t104 t105 t106 t107 inner17 w42 w43 w44 w45 w46 w47 multiple42 multiple43 multiple44 multiple45 multiple46 multiple47 x36 x37 x38 x39 x40 x41 parts6 r0) r0
def laws_FnTriangles_B22 {α : Type} (k : Nat) (one13 : Int) (count10 : Int) (two10 : Int) (area9 : Int) (boundary8 : Int) (k_3 : Int) (seven3 : Int) (eight2 : Int) (t78 : Int) (t79 : Int) (t80 : Int) (t81 : Int) (t82 : Int) (t83 : Int) (inner13 : List (Int × Int)) (w18 : Int) (w19 : Int) (w20 : Int) (w21 : Int) (w22 : Int) (w23 : Int) (multiple18 : Int) (multiple19 : Int) (multiple20 : Int) (multiple21 : Int) (multiple22 : Int) (multiple23 : Int) (x12 : Int) (x13 : Int) (x14 : Int) (x15 : Int) (x16 : Int) (x17 : Int) (parts2 : List (Int × Int × Int × Int × Int × Int)) (due3 : List (Int × Int × Int × Int × Int × Int)) (r0 : Bool → Option α) : Option α :=
  laws_FnTriangles_b22 laws_FnTriangles_l41 k one13 count10 two10 area9 boundary8 k_3 seven3 eight2 t78 t79 t80 t81 t82 t83 inner13 w18 w19 w20 w21 w22 w23 multiple18 multiple19 multiple20 multiple21 multiple22 multiple23 x12 x13 x14 x15 x16 x17 parts2 due3 (fun one16 count13 two13 area12 boundary11 k_6 seven6 eight5 t96 t97 t98 t99 t100 t101 inner16 w36 w37 w38 w39 w40 w41 multiple36 multiple37 multiple38 multiple39 multiple40 multiple41 x30 x31 x32 x33 x34 x35 parts5 => laws_FnTriangles_B23 k one16 count13 two13 area12 boundary11 k_6 seven6 eight5 t96 t97 t98 t99 t100 t101 inner16 w36 w37 w38 w39 w40 w41 multiple36 multiple37 multiple38 multiple39 multiple40 multiple41 x30 x31 x32 x33 x34 x35 parts5 r0) r0
def laws_FnTriangles_B21 {α : Type} (k : Nat)  (r0 : Bool → Option α) : Option α :=
  laws_FnTriangles_b21 k r0
def laws_FnTriangles_B20 {α : Type} (k : Nat) (one12 : Int) (count9 : Int) (two9 : Int) (area8 : Int) (boundary7 : Int) (k_2 : Int) (seven2 : Int) (eight1 : Int) (want2 : Int) (t72 : Int) (t73 : Int) (t74 : Int) (t75 : Int) (t76 : Int) (t77 : Int) (inner12 : List (Int × Int)) (w12 : Int) (w13 : Int) (w14 : Int) (w15 : Int) (w16 : Int) (w17 : Int) (multiple12 : Int) (multiple13 : Int) (multiple14 : Int) (multiple15 : Int) (multiple16 : Int) (multiple17 : Int) (x6 : Int) (x7 : Int) (x8 : Int) (x9 : Int) (x10 : Int) (x11 : Int) (parts1 : List (Int × Int × Int × Int × Int × Int)) (due2 : List (Int × Int × Int × Int × Int × Int)) (r0 : Bool → Option α) : Option α :=
  laws_FnTriangles_b20 k one12 count9 two9 area8 boundary7 k_2 seven2 eight1 want2 t72 t73 t74 t75 t76 t77 inner12 w12 w13 w14 w15 w16 w17 multiple12 multiple13 multiple14 multiple15 multiple16 multiple17 x6 x7 x8 x9 x10 x11 parts1 due2 (laws_FnTriangles_B21 k r0) (fun one13 count10 two10 area9 boundary8 k_3 seven3 eight2 t78 t79 t80 t81 t82 t83 inner13 w18 w19 w20 w21 w22 w23 multiple18 multiple19 multiple20 multiple21 multiple22 multiple23 x12 x13 x14 x15 x16 x17 parts2 due3 => laws_FnTriangles_B22 k one13 count10 two10 area9 boundary8 k_3 seven3 eight2 t78 t79 t80 t81 t82 t83 inner13 w18 w19 w20 w21 w22 w23 multiple18 multiple19 multiple20 multiple21 multiple22 multiple23 x12 x13 x14 x15 x16 x17 parts2 due3 r0) r0
def laws_FnTriangles_B19 {α : Type} (k : Nat) (one11 : Int) (count8 : Int) (two8 : Int) (area7 : Int) (boundary6 : Int) (k_1 : Int) (seven1 : Int) (j : Int) (eight : Int) (t66 : Int) (t67 : Int) (t68 : Int) (t69 : Int) (t70 : Int) (t71 : Int) (inner11 : List (Int × Int)) (w6 : Int) (w7 : Int) (w8 : Int) (w9 : Int) (w10 : Int) (w11 : Int) (multiple6 : Int) (multiple7 : Int) (multiple8 : Int) (multiple9 : Int) (multiple10 : Int) (multiple11 : Int) (x : Int) (x1 : Int) (x2 : Int) (x3 : Int) (x4 : Int) (x5 : Int) (parts : List (Int × Int × Int × Int × Int × Int)) (r0 : Bool → Option α) : Option α :=
  laws_FnTriangles_b19 spec_SplitTriangle k one11 count8 two8 area7 boundary6 k_1 seven1 j eight t66 t67 t68 t69 t70 t71 inner11 w6 w7 w8 w9 w10 w11 multiple6 multiple7 multiple8 multiple9 multiple10 multiple11 x x1 x2 x3 x4 x5 parts (fun one12 count9 two9 area8 boundary7 k_2 seven2 eight1 want2 t72 t73 t74 t75 t76 t77 inner12 w12 w13 w14 w15 w16 w17 multiple12 multiple13 multiple14 multiple15 multiple16 multiple17 x6 x7 x8 x9 x10 x11 parts1 due2 => laws_FnTriangles_B20 k one12 count9 two9 area8 boundary7 k_2 seven2 eight1 want2 t72 t73 t74 t75 t76 t77 inner12 w12 w13 w14 w15 w16 w17 multiple12 multiple13 multiple14 multiple15 multiple16 multiple17 x6 x7 x8 x9 x10 x11 parts1 due2 r0) r0
def laws_FnTriangles_B18 {α : Type} (k : Nat) (one10 : Int) (count7 : Int) (two7 : Int) (area6 : Int) (boundary5 : Int) (k_ : Int) (seven : Int) (code11 : List Int) (t60 : Int) (t61 : Int) (t62 : Int) (t63 : Int) (t64 : Int) (t65 : Int) (inner10 : List (Int × Int)) (w : Int) (w1 : Int) (w2 : Int) (w3 : Int) (w4 : Int) (w5 : Int) (multiple : Int) (multiple1 : Int) (multiple2 : Int) (multiple3 : Int) (multiple4 : Int) (multiple5 : Int) (r0 : Bool → Option α) : Option α :=
  laws_FnTriangles_b18 spec_DrawSplitTriangle impl_SplitTriangle k one10 count7 two7 area6 boundary5 k_ seven code11 t60 t61 t62 t63 t64 t65 inner10 w w1 w2 w3 w4 w5 multiple multiple1 multiple2 multiple3 multiple4 multiple5 (fun one11 count8 two8 area7 boundary6 k_1 seven1 j eight t66 t67 t68 t69 t70 t71 inner11 w6 w7 w8 w9 w10 w11 multiple6 multiple7 multiple8 multiple9 multiple10 multiple11 x x1 x2 x3 x4 x5 parts => laws_FnTriangles_B19 k one11 count8 two8 area7 boundary6 k_1 seven1 j eight t66 t67 t68 t69 t70 t71 inner11 w6 w7 w8 w9 w10 w11 multiple6 multiple7 multiple8 multiple9 multiple10 multiple11 x x1 x2 x3 x4 x5 parts r0) r0
def laws_FnTriangles_B17 {α : Type} (k : Nat)  (r0 : Bool → Option α) : Option α :=
  laws_FnTriangles_b17 k r0
def laws_FnTriangles_B16 {α : Type} (k : Nat) (one9 : Int) (count6 : Int) (two6 : Int) (area5 : Int) (boundary4 : Int) (code10 : List Int) (t54 : Int) (t55 : Int) (t56 : Int) (t57 : Int) (t58 : Int) (t59 : Int) (inner9 : List (Int × Int)) (r0 : Bool → Option α) : Option α :=
  laws_FnTriangles_b16 spec_DrawMultipleOf impl_MultipleOf spec_MultipleOf k one9 count6 two6 area5 boundary4 code10 t54 t55 t56 t57 t58 t59 inner9 (laws_FnTriangles_B17 k r0) (fun one10 count7 two7 area6 boundary5 k_ seven code11 t60 t61 t62 t63 t64 t65 inner10 w w1 w2 w3 w4 w5 multiple multiple1 multiple2 multiple3 multiple4 multiple5 => laws_FnTriangles_B18 k one10 count7 two7 area6 boundary5 k_ seven code11 t60 t61 t62 t63 t64 t65 inner10 w w1 w2 w3 w4 w5 multiple multiple1 multiple2 multiple3 multiple4 multiple5 r0) r0
def laws_FnTriangles_B15 {α : Type} (k : Nat)  (r0 : Bool → Option α) : Option α :=
  laws_FnTriangles_b15 k r0
def laws_FnTriangles_B14 {α : Type} (k : Nat) (one8 : Int) (count5 : Int) (two5 : Int) (area4 : Int) (boundary3 : Int) (code9 : List Int) (t48 : Int) (t49 : Int) (t50 : Int) (t51 : Int) (t52 : Int) (t53 : Int) (inner8 : List (Int × Int)) (r0 : Bool → Option α) : Option α :=
  laws_FnTriangles_b14 spec_DrawCornerAt impl_CornerAt spec_CornerAt k one8 count5 two5 area4 boundary3 code9 t48 t49 t50 t51 t52 t53 inner8 (laws_FnTriangles_B15 k r0) (fun one9 count6 two6 area5 boundary4 code10 t54 t55 t56 t57 t58 t59 inner9 => laws_FnTriangles_B16 k one9 count6 two6 area5 boundary4 code10 t54 t55 t56 t57 t58 t59 inner9 r0) r0
def laws_FnTriangles_B13 {α : Type} (k : Nat)  (r0 : Bool → Option α) : Option α :=
  laws_FnTriangles_b13 k r0
def laws_FnTriangles_B12 {α : Type} (k : Nat) (one7 : Int) (count4 : Int) (two4 : Int) (area3 : Int) (boundary2 : Int) (five1 : Int) (want1 : Int) (code8 : List Int) (t42 : Int) (t43 : Int) (t44 : Int) (t45 : Int) (t46 : Int) (t47 : Int) (inner7 : List (Int × Int)) (sines1 : List Int) (due1 : List Int) (r0 : Bool → Option α) : Option α :=
  laws_FnTriangles_b12 laws_likeInts k one7 count4 two4 area3 boundary2 five1 want1 code8 t42 t43 t44 t45 t46 t47 inner7 sines1 due1 (laws_FnTriangles_B13 k r0) (fun one8 count5 two5 area4 boundary3 code9 t48 t49 t50 t51 t52 t53 inner8 => laws_FnTriangles_B14 k one8 count5 two5 area4 boundary3 code9 t48 t49 t50 t51 t52 t53 inner8 r0) r0
def laws_FnTriangles_B11 {α : Type} (k : Nat) (one6 : Int) (count3 : Int) (two3 : Int) (area2 : Int) (boundary1 : Int) (five : Int) (code7 : List Int) (t36 : Int) (t37 : Int) (t38 : Int) (t39 : Int) (t40 : Int) (t41 : Int) (inner6 : List (Int × Int)) (u18 : Int) (u19 : Int) (u20 : Int) (u21 : Int) (u22 : Int) (u23 : Int) (sines : List Int) (r0 : Bool → Option α) : Option α :=
  laws_FnTriangles_b11 spec_SinesOf k one6 count3 two3 area2 boundary1 five code7 t36 t37 t38 t39 t40 t41 inner6 u18 u19 u20 u21 u22 u23 sines (fun one7 count4 two4 area3 boundary2 five1 want1 code8 t42 t43 t44 t45 t46 t47 inner7 sines1 due1 => laws_FnTriangles_B12 k one7 count4 two4 area3 boundary2 five1 want1 code8 t42 t43 t44 t45 t46 t47 inner7 sines1 due1 r0) r0
def laws_FnTriangles_B10 {α : Type} (k : Nat) (one5 : Int) (count2 : Int) (two2 : Int) (area1 : Int) (boundary : Int) (code6 : List Int) (t30 : Int) (t31 : Int) (t32 : Int) (t33 : Int) (t34 : Int) (t35 : Int) (inner5 : List (Int × Int)) (u12 : Int) (u13 : Int) (u14 : Int) (u15 : Int) (u16 : Int) (u17 : Int) (r0 : Bool → Option α) : Option α :=
  laws_FnTriangles_b10 impl_SinesOf k one5 count2 two2 area1 boundary code6 t30 t31 t32 t33 t34 t35 inner5 u12 u13 u14 u15 u16 u17 (fun one6 count3 two3 area2 boundary1 five code7 t36 t37 t38 t39 t40 t41 inner6 u18 u19 u20 u21 u22 u23 sines => laws_FnTriangles_B11 k one6 count3 two3 area2 boundary1 five code7 t36 t37 t38 t39 t40 t41 inner6 u18 u19 u20 u21 u22 u23 sines r0) r0
def laws_FnTriangles_B9 {α : Type} (k : Nat)  (r0 : Bool → Option α) : Option α :=
  laws_FnTriangles_b9 k r0
def laws_FnTriangles_B8 {α : Type} (k : Nat) (one4 : Int) (count1 : Int) (two1 : Int) (area : Int) (code5 : List Int) (t24 : Int) (t25 : Int) (t26 : Int) (t27 : Int) (t28 : Int) (t29 : Int) (inner4 : List (Int × Int)) (u6 : Int) (u7 : Int) (u8 : Int) (u9 : Int) (u10 : Int) (u11 : Int) (r0 : Bool → Option α) : Option α :=
  laws_FnTriangles_b8 impl_BoundaryOf spec_BoundaryOf k one4 count1 two1 area code5 t24 t25 t26 t27 t28 t29 inner4 u6 u7 u8 u9 u10 u11 (laws_FnTriangles_B9 k r0) (fun one5 count2 two2 area1 boundary code6 t30 t31 t32 t33 t34 t35 inner5 u12 u13 u14 u15 u16 u17 => laws_FnTriangles_B10 k one5 count2 two2 area1 boundary code6 t30 t31 t32 t33 t34 t35 inner5 u12 u13 u14 u15 u16 u17 r0) r0
def laws_FnTriangles_B7 {α : Type} (k : Nat)  (r0 : Bool → Option α) : Option α :=
  laws_FnTriangles_b7 k r0
def laws_FnTriangles_B6 {α : Type} (k : Nat) (one3 : Int) (count : Int) (two : Int) (code4 : List Int) (t18 : Int) (t19 : Int) (t20 : Int) (t21 : Int) (t22 : Int) (t23 : Int) (inner3 : List (Int × Int)) (u : Int) (u1 : Int) (u2 : Int) (u3 : Int) (u4 : Int) (u5 : Int) (r0 : Bool → Option α) : Option α :=
  laws_FnTriangles_b6 impl_AreaOfTriangle spec_AreaOfTriangle k one3 count two code4 t18 t19 t20 t21 t22 t23 inner3 u u1 u2 u3 u4 u5 (laws_FnTriangles_B7 k r0) (fun one4 count1 two1 area code5 t24 t25 t26 t27 t28 t29 inner4 u6 u7 u8 u9 u10 u11 => laws_FnTriangles_B8 k one4 count1 two1 area code5 t24 t25 t26 t27 t28 t29 inner4 u6 u7 u8 u9 u10 u11 r0) r0
def laws_FnTriangles_B5 {α : Type} (k : Nat)  (r0 : Bool → Option α) : Option α :=
  laws_FnTriangles_b5 k r0
def laws_FnTriangles_B4 {α : Type} (k : Nat) (one2 : Int) (code3 : List Int) (t12 : Int) (t13 : Int) (t14 : Int) (t15 : Int) (t16 : Int) (t17 : Int) (inner2 : List (Int × Int)) (r0 : Bool → Option α) : Option α :=
  laws_FnTriangles_b4 spec_DrawCountInner impl_CountInner spec_CountInner k one2 code3 t12 t13 t14 t15 t16 t17 inner2 (laws_FnTriangles_B5 k r0) (fun one3 count two code4 t18 t19 t20 t21 t22 t23 inner3 u u1 u2 u3 u4 u5 => laws_FnTriangles_B6 k one3 count two code4 t18 t19 t20 t21 t22 t23 inner3 u u1 u2 u3 u4 u5 r0) r0
def laws_FnTriangles_B3 {α : Type} (k : Nat)  (r0 : Bool → Option α) : Option α :=
  laws_FnTriangles_b3 k r0
def laws_FnTriangles_B2 {α : Type} (k : Nat) (one1 : Int) (want : Int) (code2 : List Int) (t6 : Int) (t7 : Int) (t8 : Int) (t9 : Int) (t10 : Int) (t11 : Int) (inner1 : List (Int × Int)) (due : List (Int × Int)) (r0 : Bool → Option α) : Option α :=
  laws_FnTriangles_b2 impl_IsTriangle spec_IsTriangle laws_points9 k one1 want code2 t6 t7 t8 t9 t10 t11 inner1 due (laws_FnTriangles_B3 k r0) (fun one2 code3 t12 t13 t14 t15 t16 t17 inner2 => laws_FnTriangles_B4 k one2 code3 t12 t13 t14 t15 t16 t17 inner2 r0) r0
def laws_FnTriangles_B1 {α : Type} (k : Nat) (one : Int) (code1 : List Int) (t : Int) (t1 : Int) (t2 : Int) (t3 : Int) (t4 : Int) (t5 : Int) (inner : List (Int × Int)) (r0 : Bool → Option α) : Option α :=
  laws_FnTriangles_b1 spec_InnerPoints k one code1 t t1 t2 t3 t4 t5 inner (fun one1 want code2 t6 t7 t8 t9 t10 t11 inner1 due => laws_FnTriangles_B2 k one1 want code2 t6 t7 t8 t9 t10 t11 inner1 due r0) r0
def laws_FnTriangles_B0 {α : Type} (k : Nat) (code : List Int) (r0 : Bool → Option α) : Option α :=
  laws_FnTriangles_b0 laws_big spec_DrawInnerPoints impl_InnerPoints k code (fun one code1 t t1 t2 t3 t4 t5 inner => laws_FnTriangles_B1 k one code1 t t1 t2 t3 t4 t5 inner r0) r0
def laws_FnTriangles {α : Type} (k : Nat) (code : List Int) (r0 : Bool → Option α) : Option α := laws_FnTriangles_B0 k code r0

end Go.Sh
