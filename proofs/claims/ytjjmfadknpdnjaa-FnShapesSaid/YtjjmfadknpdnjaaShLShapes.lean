/- The program's functions, read without memory: printed by a program of ours. -/
import Derived.Test.YtjjmfadknpdnjaaMaB
import Derived.Test.YtjjmfadknpdnjaaEvSort
namespace Go.Sh
open Go Go.Ev

/-- loop.example/g01297/laws.big -/
def laws_big {α : Type} (k : Nat) (code : List Int) (r0 : Bool → Option α) : Option α :=
  r0 (decide (4096 < (((List.length code) : Nat) : Int)))

def spec_l01From_l3 {α : Type} : Nat → Int → List Int → Int → Int → (Int → List Int → Int → Int → Option α) → (Int → Int → Option α) → Option α
  | 0, _, _, _, _, _, _ => none
  | k + 1, i, code1, s, s1, b0, r0 =>
    bif decide (i < (((List.length code1) : Nat) : Int)) then
      bif decide (i < 4096) then
        bif (decide (0 ≤ i) && decide (i < (((List.length code1) : Nat) : Int))) then
          (code1[i.toNat]?).bind fun e_ =>
          spec_l01From_l3 k (w64 (i + 1)) code1 s (IntKind.wrap .u64 ((IntKind.wrap .u64 ((IntKind.wrap .u64 (s1 * 1099511628211)) + (IntKind.wrap .u64 e_))) + 107)) b0 r0
        else
          none
      else
        b0 i code1 s s1
    else
      b0 i code1 s s1

/-- loop.example/g01297/spec.l01From -/
def spec_l01From {α : Type} (k : Nat) (code : List Int) (r0 : Int → Int → Option α) : Option α :=
  spec_l01From_l3 k 0 code 0 (IntKind.wrap .u64 (12971 + (IntKind.wrap .u64 (((List.length code) : Nat) : Int))))
    (fun _ _ s2 s3 =>
      r0 s2 s3)
    r0

/-- loop.example/g01297/spec.l01Next -/
def spec_l01Next {α : Type} (k : Nat) (s : List Int) (s1 : Int) (s2 : Int) (n_ : Int) (r0 : Int → Int → Int → Option α) : Option α :=
  bif decide (n_ < 1) then
    r0 0 s1 s2
  else
  bif decide (s1 < (((List.length s) : Nat) : Int)) then
    bif (decide (0 ≤ s1) && decide (s1 < (((List.length s) : Nat) : Int))) then
      (s[s1.toNat]?).bind fun e_ =>
      bif decide (n_ = 0) then
        none
      else
        r0 (Int.tmod (w64 ((w64 (IntKind.wrap .u64 ((BitVec.ofInt 64 (Int.fdiv (IntKind.wrap .u64 ((IntKind.wrap .u64 (s2 * 6364136223846793005)) + 1442695040888963407)) (2 ^ 31)) &&& BitVec.ofInt 64 1073741823).toNat))) + (w64 e_))) n_) (w64 (s1 + 1)) (IntKind.wrap .u64 ((IntKind.wrap .u64 (s2 * 6364136223846793005)) + 1442695040888963407))
    else
      none
  else
  bif decide (n_ = 0) then
    none
  else
    r0 (Int.tmod (w64 (IntKind.wrap .u64 ((BitVec.ofInt 64 (Int.fdiv (IntKind.wrap .u64 ((IntKind.wrap .u64 (s2 * 6364136223846793005)) + 1442695040888963407)) (2 ^ 31)) &&& BitVec.ofInt 64 1073741823).toNat))) n_) s1 (IntKind.wrap .u64 ((IntKind.wrap .u64 (s2 * 6364136223846793005)) + 1442695040888963407))

/-- loop.example/g01297/spec.l01Pick -/
def spec_l01Pick {α : Type} (k : Nat) (s : List Int) (s1 : Int) (s2 : Int) (list : List Int) (r0 : Int → Int → Int → Option α) : Option α :=
  spec_l01Next k s s1 s2 (((List.length list) : Nat) : Int) fun v v1 v2 =>
  bif (decide (0 ≤ v) && decide (v < (((List.length list) : Nat) : Int))) then
    (list[v.toNat]?).bind fun e_ =>
    r0 e_ v1 v2
  else
    none

/-- loop.example/g01297/spec.l01DrawPoint -/
def spec_l01DrawPoint {α : Type} (k : Nat) (s : List Int) (s1 : Int) (s2 : Int) (most : Int) (r0 : Int → Int → Int → Int → Option α) : Option α :=
  spec_l01Next k s s1 s2 (w64 ((w64 (2 * most)) + 1)) fun v v1 v2 =>
  spec_l01Next k s v1 v2 (w64 ((w64 (2 * most)) + 1)) fun v3 v4 v5 =>
  r0 (w64 (v - most)) (w64 (v3 - most)) v4 v5

/-- loop.example/g01297/spec.l01Plus -/
def spec_l01Plus {α : Type} (k : Nat) (a : Int) (a1 : Int) (b_ : Int) (b_1 : Int) (k_ : Int) (r0 : Int → Int → Option α) : Option α :=
  r0 (w64 (a + (w64 (k_ * b_)))) (w64 (a1 + (w64 (k_ * b_1))))

/-- loop.example/g01297/spec.l01Det -/
def spec_l01Det {α : Type} (k : Nat) (a : Int) (a1 : Int) (b_ : Int) (b_1 : Int) (r0 : Int → Option α) : Option α :=
  r0 (w64 ((w64 (a * b_1)) - (w64 (a1 * b_))))

/-- loop.example/g01297/spec.l01Area -/
def spec_l01Area {α : Type} (k : Nat) (a : Int) (a1 : Int) (b_ : Int) (b_1 : Int) (c : Int) (c1 : Int) (r0 : Int → Option α) : Option α :=
  spec_l01Plus k b_ b_1 a a1 (-1) fun v v1 =>
  spec_l01Plus k c c1 a a1 (-1) fun v2 v3 =>
  spec_l01Det k v v1 v2 v3 fun v4 =>
  r0 (max v4 (w64 (0 - v4)))

/-- loop.example/g01297/spec.l04Draw -/
def spec_l04Draw {α : Type} (k : Nat) (s : List Int) (s1 : Int) (s2 : Int) (r0 : Int → Int → Int → Int → Int → Int → Int → Int → Option α) : Option α :=
  spec_l01Pick k s s1 s2 [2, 4, 4, 8, 20, 1000] fun v v1 v2 =>
  spec_l01DrawPoint k s v1 v2 v fun v3 v4 v5 v6 =>
  spec_l01DrawPoint k s v5 v6 v fun v7 v8 v9 v10 =>
  spec_l01DrawPoint k s v9 v10 v fun v11 v12 v13 v14 =>
  spec_l01Area k v3 v4 v7 v8 v11 v12 fun v15 =>
  bif decide (v15 = 0) then
    spec_l01Pick k s v13 v14 [1, (-1)] fun v16 v17 v18 =>
    spec_l01Plus k v3 v4 1 0 v16 fun v19 v20 =>
    spec_l01Pick k s v17 v18 [1, (-1), 2] fun v21 v22 v23 =>
    spec_l01Plus k v3 v4 0 1 v21 fun v24 v25 =>
    r0 v3 v4 v19 v20 v24 v25 v22 v23
  else
    r0 v3 v4 v7 v8 v11 v12 v13 v14

/-- loop.example/g01297/spec.l04Spoil -/
def spec_l04Spoil {α : Type} (k : Nat) (s : List Int) (s1 : Int) (s2 : Int) (r0 : Int → Int → Int → Int → Int → Int → Int → Int → Option α) : Option α :=
  spec_l04Draw k s s1 s2 fun v v1 v2 v3 v4 v5 v6 v7 =>
  spec_l01Next k s v6 v7 40 fun v8 v9 v10 =>
  bif decide (v8 = 0) then
    spec_l01Next k s v9 v10 2 fun v11 v12 v13 =>
    bif (decide (0 ≤ v11) && decide (v11 < 3)) then
      ([v, v1, v2, v3, v4, v5][(v11.toNat * 2)]?).bind fun e_ =>
      ([v, v1, v2, v3, v4, v5][((v11.toNat * 2) + 1)]?).bind fun e_1 =>
      r0 v v1 v2 v3 e_ e_1 v12 v13
    else
      none
  else
  bif decide (v8 = 1) then
    spec_l01Next k s v9 v10 3 fun v14 v15 v16 =>
    bif (decide (0 ≤ v14) && decide (v14 < 3)) then
      spec_l01Next k s v15 v16 2 fun v17 v18 v19 =>
      spec_l01Pick k s v18 v19 [1001, (-1001), 1000] fun v20 v21 v22 =>
      bif (decide (0 ≤ v17) && decide (v17 < 2)) then
        ([v, v1, v2, v3, v4, v5][(moved (v14.toNat * 2) v17.toNat 1)]?).bind fun _ =>
        ((List.set [v, v1, v2, v3, v4, v5] (moved (v14.toNat * 2) v17.toNat 1) v20)[0]?).bind fun e_2 =>
        ((List.set [v, v1, v2, v3, v4, v5] (moved (v14.toNat * 2) v17.toNat 1) v20)[1]?).bind fun e_3 =>
        ((List.set [v, v1, v2, v3, v4, v5] (moved (v14.toNat * 2) v17.toNat 1) v20)[2]?).bind fun e_4 =>
        ((List.set [v, v1, v2, v3, v4, v5] (moved (v14.toNat * 2) v17.toNat 1) v20)[3]?).bind fun e_5 =>
        ((List.set [v, v1, v2, v3, v4, v5] (moved (v14.toNat * 2) v17.toNat 1) v20)[4]?).bind fun e_6 =>
        ((List.set [v, v1, v2, v3, v4, v5] (moved (v14.toNat * 2) v17.toNat 1) v20)[5]?).bind fun e_7 =>
        r0 e_2 e_3 e_4 e_5 e_6 e_7 v21 v22
      else
        none
    else
      none
  else
    r0 v v1 v2 v3 v4 v5 v9 v10

/-- loop.example/g01297/spec.DrawNormalShape -/
def spec_DrawNormalShape {α : Type} (k : Nat) (code : List Int) (r0 : Int → Int → Int → Int → Int → Int → Option α) : Option α :=
  spec_l01From k code fun v v1 =>
  spec_l04Spoil k code v v1 fun v2 v3 v4 v5 v6 v7 _ _ =>
  r0 v2 v3 v4 v5 v6 v7

/-- loop.example/g01297/impl.in -/
def impl_in {α : Type} (k : Nat) (n_ : Int) (low : Int) (high : Int) (r0 : Bool → Option α) : Option α :=
  bif decide (low ≤ n_) then
    r0 (decide (n_ ≤ high))
  else
    r0 false

/-- loop.example/g01297/impl.small -/
def impl_small {α : Type} (k : Nat) (a : Int) (a1 : Int) (r0 : Bool → Option α) : Option α :=
  impl_in k a (-1000) 1000 fun v =>
  bif v then
    impl_in k a1 (-1000) 1000 fun v1 =>
    r0 v1
  else
    r0 false

/-- (loop.example/g01297/impl.Point).plus -/
def impl_Point_plus {α : Type} (k : Nat) (a : Int) (a1 : Int) (b_ : Int) (b_1 : Int) (k_ : Int) (r0 : Int → Int → Option α) : Option α :=
  r0 (w64 (a + (w64 (k_ * b_)))) (w64 (a1 + (w64 (k_ * b_1))))

/-- (loop.example/g01297/impl.Point).less -/
def impl_Point_less {α : Type} (k : Nat) (a : Int) (a1 : Int) (b_ : Int) (b_1 : Int) (r0 : Int → Int → Option α) : Option α :=
  impl_Point_plus k a a1 b_ b_1 (-1) fun v v1 =>
  r0 v v1

/-- loop.example/g01297/impl.det -/
def impl_det {α : Type} (k : Nat) (a : Int) (a1 : Int) (b_ : Int) (b_1 : Int) (r0 : Int → Option α) : Option α :=
  r0 (w64 ((w64 (a * b_1)) - (w64 (a1 * b_))))

/-- loop.example/g01297/impl.size -/
def impl_size {α : Type} (k : Nat) (n_ : Int) (r0 : Int → Option α) : Option α :=
  r0 (max n_ (w64 (0 - n_)))

/-- loop.example/g01297/impl.area -/
def impl_area {α : Type} (k : Nat) (a : Int) (a1 : Int) (b_ : Int) (b_1 : Int) (c : Int) (c1 : Int) (r0 : Int → Option α) : Option α :=
  impl_Point_less k b_ b_1 a a1 fun v v1 =>
  impl_Point_less k c c1 a a1 fun v2 v3 =>
  impl_det k v v1 v2 v3 fun v4 =>
  impl_size k v4 fun v5 =>
  r0 v5

/-- loop.example/g01297/impl.IsTriangle -/
def impl_IsTriangle {α : Type} (k : Nat) (t : Int) (t1 : Int) (t2 : Int) (t3 : Int) (t4 : Int) (t5 : Int) (r0 : Bool → Option α) : Option α :=
  impl_small k t t1 fun v =>
  bif v then
    impl_small k t2 t3 fun v1 =>
    bif v1 then
      impl_small k t4 t5 fun v2 =>
      bif v2 then
        impl_area k t t1 t2 t3 t4 t5 fun v3 =>
        r0 (!decide (v3 = 0))
      else
        r0 false
    else
      r0 false
  else
    r0 false

/-- (loop.example/g01297/impl.Triangle).side -/
def impl_Triangle_side {α : Type} (k : Nat) (t : Int) (t1 : Int) (t2 : Int) (t3 : Int) (t4 : Int) (t5 : Int) (i : Int) (k_ : Int) (r0 : Int → Int → Option α) : Option α :=
  bif (decide (0 ≤ k_) && decide (k_ < 3)) then
    ([t, t1, t2, t3, t4, t5][(k_.toNat * 2)]?).bind fun e_ =>
    ([t, t1, t2, t3, t4, t5][((k_.toNat * 2) + 1)]?).bind fun e_1 =>
    bif (decide (0 ≤ i) && decide (i < 3)) then
      ([t, t1, t2, t3, t4, t5][(i.toNat * 2)]?).bind fun e_2 =>
      ([t, t1, t2, t3, t4, t5][((i.toNat * 2) + 1)]?).bind fun e_3 =>
      impl_Point_less k e_ e_1 e_2 e_3 fun v v1 =>
      r0 v v1
    else
      none
  else
    none

def impl_gcd_l1 {α : Type} : Nat → Int → Int → (Int → Int → Option α) → (Int → Option α) → Option α
  | 0, _, _, _, _ => none
  | k + 1, a1, b_1, b0, r0 =>
    bif (!decide (b_1 = 0)) then
      bif decide (b_1 = 0) then
        none
      else
        impl_gcd_l1 k b_1 (Int.tmod a1 b_1) b0 r0
    else
      b0 a1 b_1

/-- loop.example/g01297/impl.gcd -/
def impl_gcd {α : Type} (k : Nat) (a : Int) (b_ : Int) (r0 : Int → Option α) : Option α :=
  impl_gcd_l1 k a b_
    (fun a2 _ =>
      impl_size k a2 fun v =>
      r0 v)
    r0

/-- (loop.example/g01297/impl.Point).length -/
def impl_Point_length {α : Type} (k : Nat) (a : Int) (a1 : Int) (r0 : Int → Option α) : Option α :=
  impl_gcd k a a1 fun v =>
  r0 v

/-- (loop.example/g01297/impl.Triangle).area -/
def impl_Triangle_area {α : Type} (k : Nat) (t : Int) (t1 : Int) (t2 : Int) (t3 : Int) (t4 : Int) (t5 : Int) (r0 : Int → Option α) : Option α :=
  impl_area k t t1 t2 t3 t4 t5 fun v =>
  r0 v

/-- (loop.example/g01297/impl.Point).primitive -/
def impl_Point_primitive {α : Type} (k : Nat) (a : Int) (a1 : Int) (r0 : Int → Int → Option α) : Option α :=
  impl_Point_length k a a1 fun v =>
  bif decide (v = 0) then
    none
  else
  bif decide (v = 0) then
    none
  else
    r0 (w64 (Int.tdiv a v)) (w64 (Int.tdiv a1 v))

/-- loop.example/g01297/impl.floor -/
def impl_floor {α : Type} (k : Nat) (a : Int) (b_ : Int) (r0 : Int → Option α) : Option α :=
  bif decide (b_ = 0) then
    none
  else
  bif decide (b_ = 0) then
    none
  else
  bif (!decide ((Int.tmod a b_) = 0)) then
    bif (!(decide (a < 0) == decide (b_ < 0))) then
      r0 (w64 ((w64 (Int.tdiv a b_)) - 1))
    else
      r0 (w64 (Int.tdiv a b_))
  else
    r0 (w64 (Int.tdiv a b_))

/-- loop.example/g01297/impl.mod -/
def impl_mod {α : Type} (k : Nat) (a : Int) (b_ : Int) (r0 : Int → Option α) : Option α :=
  impl_floor k a b_ fun v =>
  r0 (w64 (a - (w64 (b_ * v))))

def impl_bezout_l2 {α : Type} : Nat → Int → Int → Int → Int → Int → (Int → Int → Int → Int → Int → Option α) → (Int → Option α) → Option α
  | 0, _, _, _, _, _, _, _ => none
  | k + 1, m1, r_, s, x, y, b0, r0 =>
    bif (!decide (s = 0)) then
      bif decide (s = 0) then
        none
      else
        impl_bezout_l2 k m1 s (w64 (r_ - (w64 ((w64 (Int.tdiv r_ s)) * s)))) y (w64 (x - (w64 ((w64 (Int.tdiv r_ s)) * y)))) b0 r0
    else
      b0 m1 r_ s x y

/-- loop.example/g01297/impl.bezout -/
def impl_bezout {α : Type} (k : Nat) (a : Int) (m : Int) (r0 : Int → Option α) : Option α :=
  impl_mod k a m fun v =>
  impl_bezout_l2 k m v m 1 0
    (fun m2 _ _ x1 _ =>
      impl_mod k x1 m2 fun v1 =>
      r0 v1)
    r0

/-- (loop.example/g01297/impl.Point).mate -/
def impl_Point_mate {α : Type} (k : Nat) (a : Int) (a1 : Int) (r0 : Int → Int → Option α) : Option α :=
  bif decide (a = 0) then
    r0 (w64 (0 - a1)) 0
  else
    impl_size k a fun v =>
    impl_bezout k a1 v fun v1 =>
    impl_size k a fun v2 =>
    impl_mod k (w64 (0 - v1)) v2 fun v3 =>
    bif decide (a = 0) then
      none
    else
      r0 v3 (w64 (Int.tdiv (w64 (1 + (w64 (a1 * v3)))) a))

/-- (loop.example/g01297/impl.Triangle).shape -/
def impl_Triangle_shape {α : Type} (k : Nat) (t : Int) (t1 : Int) (t2 : Int) (t3 : Int) (t4 : Int) (t5 : Int) (i : Int) (j : Int) (r0 : Int → Int → Int → Option α) : Option α :=
  impl_Triangle_side k t t1 t2 t3 t4 t5 i j fun v v1 =>
  impl_Triangle_side k t t1 t2 t3 t4 t5 i (w64 ((w64 (3 - i)) - j)) fun v2 v3 =>
  impl_Point_length k v v1 fun v4 =>
  impl_Triangle_area k t t1 t2 t3 t4 t5 fun v5 =>
  bif decide (v4 = 0) then
    none
  else
    impl_Point_primitive k v v1 fun v6 v7 =>
    impl_Point_mate k v6 v7 fun v8 v9 =>
    impl_det k v2 v3 v8 v9 fun v10 =>
    impl_mod k v10 (w64 (Int.tdiv v5 v4)) fun v11 =>
    r0 v4 v11 (w64 (Int.tdiv v5 v4))

/-- cmp.isNaN[int64] -/
def cmp_isNaN_int64 {α : Type} (k : Nat) (x : Int) (r0 : Bool → Option α) : Option α :=
  r0 (!decide (x = x))

/-- cmp.Compare[int64] -/
def cmp_Compare_int64 {α : Type} (k : Nat) (x : Int) (y : Int) (r0 : Int → Option α) : Option α :=
  cmp_isNaN_int64 k x fun v =>
  cmp_isNaN_int64 k y fun v1 =>
  bif v then
    bif v1 then
      r0 0
    else
      r0 (-1)
  else
  bif v1 then
    r0 1
  else
  bif decide (x < y) then
    r0 (-1)
  else
  bif decide (y < x) then
    r0 1
  else
    r0 0

def cmp_Or_int_l3 {α : Type} : Nat → Int → Int → Int → List Int → (Int → Int → Int → List Int → Option α) → (Int → Option α) → Option α
  | 0, _, _, _, _, _, _ => none
  | k + 1, zero, x, x1, x2, b0, r0 =>
    bif decide (x1 < x) then
      bif (decide (0 ≤ x1) && decide (x1 < (((List.length x2) : Nat) : Int))) then
        (x2[x1.toNat]?).bind fun e_ =>
        bif (!decide (e_ = zero)) then
          r0 e_
        else
          cmp_Or_int_l3 k zero x (w64 (x1 + 1)) x2 b0 r0
      else
        none
    else
      b0 zero x x1 x2

/-- cmp.Or[int] -/
def cmp_Or_int {α : Type} (k : Nat) (vals : List Int) (r0 : Int → Option α) : Option α :=
  cmp_Or_int_l3 k 0 (((List.length vals) : Nat) : Int) 0 vals
    (fun zero1 _ _ _ =>
      r0 zero1)
    r0

/-- loop.example/g01297/impl.shapeOrder -/
def impl_shapeOrder {α : Type} (k : Nat) (a : Int) (a1 : Int) (a2 : Int) (b_ : Int) (b_1 : Int) (b_2 : Int) (r0 : Int → Option α) : Option α :=
  cmp_Compare_int64 k a b_ fun v =>
  cmp_Compare_int64 k a1 b_1 fun v1 =>
  cmp_Compare_int64 k a2 b_2 fun v2 =>
  cmp_Or_int k [v, v1, v2] fun v3 =>
  r0 v3

def impl_Triangle_normal_l3 {α : Type} : Nat → Int → Int → Int → Int → Int → Int → Int → Int → Int → Int → Int → Int → Int → (Int → Int → Int → Int → Int → Int → Int → Int → Int → Int → Int → Int → Int → Option α) → (Int → Int → Int → Option α) → Option α
  | 0, _, _, _, _, _, _, _, _, _, _, _, _, _, _, _ => none
  | k + 1, x, t6, t7, t8, t9, t10, t11, x1, x2, x3, out, out1, out2, b0, r0 =>
    bif decide (x < 3) then
      bif (!decide (x = 0)) then
        impl_Triangle_shape k t6 t7 t8 t9 t10 t11 x 0 fun v3 v4 v5 =>
        impl_shapeOrder k v3 v4 v5 out out1 out2 fun v6 =>
        bif decide (v6 < 0) then
          impl_Triangle_shape k t6 t7 t8 t9 t10 t11 x 0 fun v7 v8 v9 =>
          bif (!decide (x = 1)) then
            impl_Triangle_shape k t6 t7 t8 t9 t10 t11 x 1 fun v10 v11 v12 =>
            impl_shapeOrder k v10 v11 v12 v7 v8 v9 fun v13 =>
            bif decide (v13 < 0) then
              impl_Triangle_shape k t6 t7 t8 t9 t10 t11 x 1 fun v14 v15 v16 =>
              bif (!decide (x = 2)) then
                impl_Triangle_shape k t6 t7 t8 t9 t10 t11 x 2 fun v17 v18 v19 =>
                impl_shapeOrder k v17 v18 v19 v14 v15 v16 fun v20 =>
                bif decide (v20 < 0) then
                  impl_Triangle_shape k t6 t7 t8 t9 t10 t11 x 2 fun v21 v22 v23 =>
                  impl_Triangle_normal_l3 k (w64 (x + 1)) t6 t7 t8 t9 t10 t11 x1 x2 x3 v21 v22 v23 b0 r0
                else
                  impl_Triangle_normal_l3 k (w64 (x + 1)) t6 t7 t8 t9 t10 t11 x1 x2 x3 v14 v15 v16 b0 r0
              else
                impl_Triangle_normal_l3 k (w64 (x + 1)) t6 t7 t8 t9 t10 t11 x1 x2 x3 v14 v15 v16 b0 r0
            else
            bif (!decide (x = 2)) then
              impl_Triangle_shape k t6 t7 t8 t9 t10 t11 x 2 fun v24 v25 v26 =>
              impl_shapeOrder k v24 v25 v26 v7 v8 v9 fun v27 =>
              bif decide (v27 < 0) then
                impl_Triangle_shape k t6 t7 t8 t9 t10 t11 x 2 fun v28 v29 v30 =>
                impl_Triangle_normal_l3 k (w64 (x + 1)) t6 t7 t8 t9 t10 t11 x1 x2 x3 v28 v29 v30 b0 r0
              else
                impl_Triangle_normal_l3 k (w64 (x + 1)) t6 t7 t8 t9 t10 t11 x1 x2 x3 v7 v8 v9 b0 r0
            else
              impl_Triangle_normal_l3 k (w64 (x + 1)) t6 t7 t8 t9 t10 t11 x1 x2 x3 v7 v8 v9 b0 r0
          else
          bif (!decide (x = 2)) then
            impl_Triangle_shape k t6 t7 t8 t9 t10 t11 x 2 fun v31 v32 v33 =>
            impl_shapeOrder k v31 v32 v33 v7 v8 v9 fun v34 =>
            bif decide (v34 < 0) then
              impl_Triangle_shape k t6 t7 t8 t9 t10 t11 x 2 fun v35 v36 v37 =>
              impl_Triangle_normal_l3 k (w64 (x + 1)) t6 t7 t8 t9 t10 t11 x1 x2 x3 v35 v36 v37 b0 r0
            else
              impl_Triangle_normal_l3 k (w64 (x + 1)) t6 t7 t8 t9 t10 t11 x1 x2 x3 v7 v8 v9 b0 r0
          else
            impl_Triangle_normal_l3 k (w64 (x + 1)) t6 t7 t8 t9 t10 t11 x1 x2 x3 v7 v8 v9 b0 r0
        else
        bif (!decide (x = 1)) then
          impl_Triangle_shape k t6 t7 t8 t9 t10 t11 x 1 fun v38 v39 v40 =>
          impl_shapeOrder k v38 v39 v40 out out1 out2 fun v41 =>
          bif decide (v41 < 0) then
            impl_Triangle_shape k t6 t7 t8 t9 t10 t11 x 1 fun v42 v43 v44 =>
            bif (!decide (x = 2)) then
              impl_Triangle_shape k t6 t7 t8 t9 t10 t11 x 2 fun v45 v46 v47 =>
              impl_shapeOrder k v45 v46 v47 v42 v43 v44 fun v48 =>
              bif decide (v48 < 0) then
                impl_Triangle_shape k t6 t7 t8 t9 t10 t11 x 2 fun v49 v50 v51 =>
                impl_Triangle_normal_l3 k (w64 (x + 1)) t6 t7 t8 t9 t10 t11 x1 x2 x3 v49 v50 v51 b0 r0
              else
                impl_Triangle_normal_l3 k (w64 (x + 1)) t6 t7 t8 t9 t10 t11 x1 x2 x3 v42 v43 v44 b0 r0
            else
              impl_Triangle_normal_l3 k (w64 (x + 1)) t6 t7 t8 t9 t10 t11 x1 x2 x3 v42 v43 v44 b0 r0
          else
          bif (!decide (x = 2)) then
            impl_Triangle_shape k t6 t7 t8 t9 t10 t11 x 2 fun v52 v53 v54 =>
            impl_shapeOrder k v52 v53 v54 out out1 out2 fun v55 =>
            bif decide (v55 < 0) then
              impl_Triangle_shape k t6 t7 t8 t9 t10 t11 x 2 fun v56 v57 v58 =>
              impl_Triangle_normal_l3 k (w64 (x + 1)) t6 t7 t8 t9 t10 t11 x1 x2 x3 v56 v57 v58 b0 r0
            else
              impl_Triangle_normal_l3 k (w64 (x + 1)) t6 t7 t8 t9 t10 t11 x1 x2 x3 out out1 out2 b0 r0
          else
            impl_Triangle_normal_l3 k (w64 (x + 1)) t6 t7 t8 t9 t10 t11 x1 x2 x3 out out1 out2 b0 r0
        else
        bif (!decide (x = 2)) then
          impl_Triangle_shape k t6 t7 t8 t9 t10 t11 x 2 fun v59 v60 v61 =>
          impl_shapeOrder k v59 v60 v61 out out1 out2 fun v62 =>
          bif decide (v62 < 0) then
            impl_Triangle_shape k t6 t7 t8 t9 t10 t11 x 2 fun v63 v64 v65 =>
            impl_Triangle_normal_l3 k (w64 (x + 1)) t6 t7 t8 t9 t10 t11 x1 x2 x3 v63 v64 v65 b0 r0
          else
            impl_Triangle_normal_l3 k (w64 (x + 1)) t6 t7 t8 t9 t10 t11 x1 x2 x3 out out1 out2 b0 r0
        else
          impl_Triangle_normal_l3 k (w64 (x + 1)) t6 t7 t8 t9 t10 t11 x1 x2 x3 out out1 out2 b0 r0
      else
      bif (!decide (x = 1)) then
        impl_Triangle_shape k t6 t7 t8 t9 t10 t11 x 1 fun v66 v67 v68 =>
        impl_shapeOrder k v66 v67 v68 out out1 out2 fun v69 =>
        bif decide (v69 < 0) then
          impl_Triangle_shape k t6 t7 t8 t9 t10 t11 x 1 fun v70 v71 v72 =>
          bif (!decide (x = 2)) then
            impl_Triangle_shape k t6 t7 t8 t9 t10 t11 x 2 fun v73 v74 v75 =>
            impl_shapeOrder k v73 v74 v75 v70 v71 v72 fun v76 =>
            bif decide (v76 < 0) then
              impl_Triangle_shape k t6 t7 t8 t9 t10 t11 x 2 fun v77 v78 v79 =>
              impl_Triangle_normal_l3 k (w64 (x + 1)) t6 t7 t8 t9 t10 t11 x1 x2 x3 v77 v78 v79 b0 r0
            else
              impl_Triangle_normal_l3 k (w64 (x + 1)) t6 t7 t8 t9 t10 t11 x1 x2 x3 v70 v71 v72 b0 r0
          else
            impl_Triangle_normal_l3 k (w64 (x + 1)) t6 t7 t8 t9 t10 t11 x1 x2 x3 v70 v71 v72 b0 r0
        else
        bif (!decide (x = 2)) then
          impl_Triangle_shape k t6 t7 t8 t9 t10 t11 x 2 fun v80 v81 v82 =>
          impl_shapeOrder k v80 v81 v82 out out1 out2 fun v83 =>
          bif decide (v83 < 0) then
            impl_Triangle_shape k t6 t7 t8 t9 t10 t11 x 2 fun v84 v85 v86 =>
            impl_Triangle_normal_l3 k (w64 (x + 1)) t6 t7 t8 t9 t10 t11 x1 x2 x3 v84 v85 v86 b0 r0
          else
            impl_Triangle_normal_l3 k (w64 (x + 1)) t6 t7 t8 t9 t10 t11 x1 x2 x3 out out1 out2 b0 r0
        else
          impl_Triangle_normal_l3 k (w64 (x + 1)) t6 t7 t8 t9 t10 t11 x1 x2 x3 out out1 out2 b0 r0
      else
      bif (!decide (x = 2)) then
        impl_Triangle_shape k t6 t7 t8 t9 t10 t11 x 2 fun v87 v88 v89 =>
        impl_shapeOrder k v87 v88 v89 out out1 out2 fun v90 =>
        bif decide (v90 < 0) then
          impl_Triangle_shape k t6 t7 t8 t9 t10 t11 x 2 fun v91 v92 v93 =>
          impl_Triangle_normal_l3 k (w64 (x + 1)) t6 t7 t8 t9 t10 t11 x1 x2 x3 v91 v92 v93 b0 r0
        else
          impl_Triangle_normal_l3 k (w64 (x + 1)) t6 t7 t8 t9 t10 t11 x1 x2 x3 out out1 out2 b0 r0
      else
        impl_Triangle_normal_l3 k (w64 (x + 1)) t6 t7 t8 t9 t10 t11 x1 x2 x3 out out1 out2 b0 r0
    else
      b0 x t6 t7 t8 t9 t10 t11 x1 x2 x3 out out1 out2

/-- (loop.example/g01297/impl.Triangle).normal -/
def impl_Triangle_normal {α : Type} (k : Nat) (t : Int) (t1 : Int) (t2 : Int) (t3 : Int) (t4 : Int) (t5 : Int) (r0 : Int → Int → Int → Option α) : Option α :=
  impl_Triangle_shape k t t1 t2 t3 t4 t5 0 1 fun v v1 v2 =>
  impl_Triangle_normal_l3 k 0 t t1 t2 t3 t4 t5 0 0 0 v v1 v2
    (fun _ _ _ _ _ _ _ _ _ _ out3 out4 out5 =>
      r0 out3 out4 out5)
    r0

/-- loop.example/g01297/impl.NormalShape -/
def impl_NormalShape {α : Type} (k : Nat) (t : Int) (t1 : Int) (t2 : Int) (t3 : Int) (t4 : Int) (t5 : Int) (r0 : Int → Int → Int → Int → Option α) : Option α :=
  impl_IsTriangle k t t1 t2 t3 t4 t5 fun v =>
  bif (!v) then
    r0 0 0 0 1
  else
    impl_Triangle_normal k t t1 t2 t3 t4 t5 fun v1 v2 v3 =>
    r0 v1 v2 v3 0

/-- loop.example/g01297/spec.l01In -/
def spec_l01In {α : Type} (k : Nat) (n_ : Int) (low : Int) (high : Int) (r0 : Bool → Option α) : Option α :=
  bif decide (low ≤ n_) then
    r0 (decide (n_ ≤ high))
  else
    r0 false

/-- loop.example/g01297/spec.l04Is -/
def spec_l04Is {α : Type} (k : Nat) (t : Int) (t1 : Int) (t2 : Int) (t3 : Int) (t4 : Int) (t5 : Int) (r0 : Bool → Option α) : Option α :=
  spec_l01In k t (-1000) 1000 fun v =>
  bif (!v) then
    r0 false
  else
    spec_l01In k t1 (-1000) 1000 fun v1 =>
    bif (!v1) then
      r0 false
    else
      spec_l01In k t2 (-1000) 1000 fun v2 =>
      bif (!v2) then
        r0 false
      else
        spec_l01In k t3 (-1000) 1000 fun v3 =>
        bif (!v3) then
          r0 false
        else
          spec_l01In k t4 (-1000) 1000 fun v4 =>
          bif (!v4) then
            r0 false
          else
            spec_l01In k t5 (-1000) 1000 fun v5 =>
            bif (!v5) then
              r0 false
            else
              spec_l01Area k t t1 t2 t3 t4 t5 fun v6 =>
              r0 (!decide (v6 = 0))

def spec_l01Gcd_l1 {α : Type} : Nat → Int → Int → (Int → Int → Option α) → (Int → Option α) → Option α
  | 0, _, _, _, _ => none
  | k + 1, a1, b_1, b0, r0 =>
    bif (!decide (b_1 = 0)) then
      bif decide (b_1 = 0) then
        none
      else
        spec_l01Gcd_l1 k b_1 (Int.tmod a1 b_1) b0 r0
    else
      b0 a1 b_1

/-- loop.example/g01297/spec.l01Gcd -/
def spec_l01Gcd {α : Type} (k : Nat) (a : Int) (b_ : Int) (r0 : Int → Option α) : Option α :=
  spec_l01Gcd_l1 k a b_
    (fun a2 _ =>
      r0 (max a2 (w64 (0 - a2))))
    r0

/-- loop.example/g01297/spec.l01Part -/
def spec_l01Part {α : Type} (k : Nat) (a : Int) (a1 : Int) (r0 : Int → Int → Option α) : Option α :=
  spec_l01Gcd k a a1 fun v =>
  bif decide (v = 0) then
    none
  else
  bif decide (v = 0) then
    none
  else
    r0 (w64 (Int.tdiv a v)) (w64 (Int.tdiv a1 v))

/-- loop.example/g01297/spec.l01Length -/
def spec_l01Length {α : Type} (k : Nat) (a : Int) (a1 : Int) (b_ : Int) (b_1 : Int) (r0 : Int → Option α) : Option α :=
  spec_l01Gcd k (w64 (b_ - a)) (w64 (b_1 - a1)) fun v =>
  r0 v

/-- loop.example/g01297/spec.l04Area -/
def spec_l04Area {α : Type} (k : Nat) (t : Int) (t1 : Int) (t2 : Int) (t3 : Int) (t4 : Int) (t5 : Int) (r0 : Int → Option α) : Option α :=
  spec_l01Area k t t1 t2 t3 t4 t5 fun v =>
  r0 v

/-- loop.example/g01297/spec.l01Rest -/
def spec_l01Rest {α : Type} (k : Nat) (n_ : Int) (x : Int) (r0 : Int → Option α) : Option α :=
  bif decide (n_ = 0) then
    none
  else
  bif decide (n_ = 0) then
    none
  else
    r0 (Int.tmod (w64 ((Int.tmod x n_) + n_)) n_)

def spec_l01Base_l5 {α : Type} : Nat → Int → Int → Int → Int → Int → Int → Int → Int → Int → (Int → Int → Int → Int → Int → Int → Int → Int → Int → Option α) → (Int → Int → Option α) → Option α
  | 0, _, _, _, _, _, _, _, _, _, _, _ => none
  | k + 1, n_, x, before, rest, next, a2, a3, x1, x2, b0, r0 =>
    bif (!decide (next = 0)) then
      bif decide (next = 0) then
        none
      else
        spec_l01Base_l5 k n_ before (w64 (x - (w64 ((w64 (Int.tdiv rest next)) * before)))) next (w64 (rest - (w64 ((w64 (Int.tdiv rest next)) * next)))) a2 a3 x1 x2 b0 r0
    else
      b0 n_ x before rest next a2 a3 x1 x2

/-- loop.example/g01297/spec.l01Base -/
def spec_l01Base {α : Type} (k : Nat) (a : Int) (a1 : Int) (r0 : Int → Int → Option α) : Option α :=
  bif decide (a = 0) then
    r0 (w64 (0 - a1)) 0
  else
    spec_l01Rest k (max a (w64 (0 - a))) a1 fun v =>
    spec_l01Base_l5 k (max a (w64 (0 - a))) 1 0 v (max a (w64 (0 - a))) a a1 0 0
      (fun n_1 x3 _ _ _ a4 a5 _ _ =>
        spec_l01Rest k n_1 (w64 (0 - x3)) fun v1 =>
        bif decide (a4 = 0) then
          none
        else
          r0 v1 (w64 (Int.tdiv (w64 (1 + (w64 (a5 * v1)))) a4)))
      r0

/-- loop.example/g01297/spec.l04Shape -/
def spec_l04Shape {α : Type} (k : Nat) (t : Int) (t1 : Int) (t2 : Int) (t3 : Int) (t4 : Int) (t5 : Int) (i : Int) (j : Int) (r0 : Int → Int → Int → Option α) : Option α :=
  bif (decide (0 ≤ j) && decide (j < 3)) then
    ([t, t1, t2, t3, t4, t5][(j.toNat * 2)]?).bind fun e_ =>
    ([t, t1, t2, t3, t4, t5][((j.toNat * 2) + 1)]?).bind fun e_1 =>
    bif (decide (0 ≤ i) && decide (i < 3)) then
      ([t, t1, t2, t3, t4, t5][(i.toNat * 2)]?).bind fun e_2 =>
      ([t, t1, t2, t3, t4, t5][((i.toNat * 2) + 1)]?).bind fun e_3 =>
      bif (decide (0 ≤ (w64 ((w64 (3 - i)) - j))) && decide ((w64 ((w64 (3 - i)) - j)) < 3)) then
        ([t, t1, t2, t3, t4, t5][((w64 ((w64 (3 - i)) - j)).toNat * 2)]?).bind fun e_4 =>
        ([t, t1, t2, t3, t4, t5][(((w64 ((w64 (3 - i)) - j)).toNat * 2) + 1)]?).bind fun e_5 =>
        bif (decide (0 ≤ i) && decide (i < 3)) then
          ([t, t1, t2, t3, t4, t5][(i.toNat * 2)]?).bind fun e_6 =>
          ([t, t1, t2, t3, t4, t5][((i.toNat * 2) + 1)]?).bind fun e_7 =>
          spec_l01Plus k e_ e_1 e_2 e_3 (-1) fun v v1 =>
          spec_l01Plus k e_4 e_5 e_6 e_7 (-1) fun v2 v3 =>
          spec_l01Part k v v1 fun v4 v5 =>
          bif (decide (0 ≤ i) && decide (i < 3)) then
            ([t, t1, t2, t3, t4, t5][(i.toNat * 2)]?).bind fun e_8 =>
            ([t, t1, t2, t3, t4, t5][((i.toNat * 2) + 1)]?).bind fun e_9 =>
            bif (decide (0 ≤ j) && decide (j < 3)) then
              ([t, t1, t2, t3, t4, t5][(j.toNat * 2)]?).bind fun e_10 =>
              ([t, t1, t2, t3, t4, t5][((j.toNat * 2) + 1)]?).bind fun e_11 =>
              spec_l01Length k e_8 e_9 e_10 e_11 fun v6 =>
              spec_l04Area k t t1 t2 t3 t4 t5 fun v7 =>
              bif decide (v6 = 0) then
                none
              else
                spec_l01Base k v4 v5 fun v8 v9 =>
                spec_l01Det k v2 v3 v8 v9 fun v10 =>
                spec_l01Rest k (w64 (Int.tdiv v7 v6)) v10 fun v11 =>
                r0 v6 v11 (w64 (Int.tdiv v7 v6))
            else
              none
          else
            none
        else
          none
      else
        none
    else
      none
  else
    none

/-- loop.example/g01297/spec.l04Before -/
def spec_l04Before {α : Type} (k : Nat) (x : Int) (x1 : Int) (x2 : Int) (y : Int) (y1 : Int) (y2 : Int) (r0 : Bool → Option α) : Option α :=
  bif (!decide (x = y)) then
    r0 (decide (x < y))
  else
  bif (!decide (x1 = y1)) then
    r0 (decide (x1 < y1))
  else
    r0 (decide (x2 < y2))

def spec_l04Normal_l3 {α : Type} : Nat → Int → Int → Int → Int → Int → Int → Int → Int → Int → Int → Int → Int → Int → (Int → Int → Int → Int → Int → Int → Int → Int → Int → Int → Int → Int → Int → Option α) → (Int → Int → Int → Option α) → Option α
  | 0, _, _, _, _, _, _, _, _, _, _, _, _, _, _, _ => none
  | k + 1, i, t6, t7, t8, t9, t10, t11, x, x1, x2, out, out1, out2, b0, r0 =>
    bif decide (i < 3) then
      bif decide (i = 0) then
        bif decide (i = 1) then
          bif decide (i = 2) then
            spec_l04Normal_l3 k (w64 (i + 1)) t6 t7 t8 t9 t10 t11 x x1 x2 out out1 out2 b0 r0
          else
            spec_l04Shape k t6 t7 t8 t9 t10 t11 i 2 fun v3 v4 v5 =>
            spec_l04Before k v3 v4 v5 out out1 out2 fun v6 =>
            bif v6 then
              spec_l04Normal_l3 k (w64 (i + 1)) t6 t7 t8 t9 t10 t11 x x1 x2 v3 v4 v5 b0 r0
            else
              spec_l04Normal_l3 k (w64 (i + 1)) t6 t7 t8 t9 t10 t11 x x1 x2 out out1 out2 b0 r0
        else
          spec_l04Shape k t6 t7 t8 t9 t10 t11 i 1 fun v7 v8 v9 =>
          spec_l04Before k v7 v8 v9 out out1 out2 fun v10 =>
          bif v10 then
            bif decide (i = 2) then
              spec_l04Normal_l3 k (w64 (i + 1)) t6 t7 t8 t9 t10 t11 x x1 x2 v7 v8 v9 b0 r0
            else
              spec_l04Shape k t6 t7 t8 t9 t10 t11 i 2 fun v11 v12 v13 =>
              spec_l04Before k v11 v12 v13 v7 v8 v9 fun v14 =>
              bif v14 then
                spec_l04Normal_l3 k (w64 (i + 1)) t6 t7 t8 t9 t10 t11 x x1 x2 v11 v12 v13 b0 r0
              else
                spec_l04Normal_l3 k (w64 (i + 1)) t6 t7 t8 t9 t10 t11 x x1 x2 v7 v8 v9 b0 r0
          else
          bif decide (i = 2) then
            spec_l04Normal_l3 k (w64 (i + 1)) t6 t7 t8 t9 t10 t11 x x1 x2 out out1 out2 b0 r0
          else
            spec_l04Shape k t6 t7 t8 t9 t10 t11 i 2 fun v15 v16 v17 =>
            spec_l04Before k v15 v16 v17 out out1 out2 fun v18 =>
            bif v18 then
              spec_l04Normal_l3 k (w64 (i + 1)) t6 t7 t8 t9 t10 t11 x x1 x2 v15 v16 v17 b0 r0
            else
              spec_l04Normal_l3 k (w64 (i + 1)) t6 t7 t8 t9 t10 t11 x x1 x2 out out1 out2 b0 r0
      else
        spec_l04Shape k t6 t7 t8 t9 t10 t11 i 0 fun v19 v20 v21 =>
        spec_l04Before k v19 v20 v21 out out1 out2 fun v22 =>
        bif v22 then
          bif decide (i = 1) then
            bif decide (i = 2) then
              spec_l04Normal_l3 k (w64 (i + 1)) t6 t7 t8 t9 t10 t11 x x1 x2 v19 v20 v21 b0 r0
            else
              spec_l04Shape k t6 t7 t8 t9 t10 t11 i 2 fun v23 v24 v25 =>
              spec_l04Before k v23 v24 v25 v19 v20 v21 fun v26 =>
              bif v26 then
                spec_l04Normal_l3 k (w64 (i + 1)) t6 t7 t8 t9 t10 t11 x x1 x2 v23 v24 v25 b0 r0
              else
                spec_l04Normal_l3 k (w64 (i + 1)) t6 t7 t8 t9 t10 t11 x x1 x2 v19 v20 v21 b0 r0
          else
            spec_l04Shape k t6 t7 t8 t9 t10 t11 i 1 fun v27 v28 v29 =>
            spec_l04Before k v27 v28 v29 v19 v20 v21 fun v30 =>
            bif v30 then
              bif decide (i = 2) then
                spec_l04Normal_l3 k (w64 (i + 1)) t6 t7 t8 t9 t10 t11 x x1 x2 v27 v28 v29 b0 r0
              else
                spec_l04Shape k t6 t7 t8 t9 t10 t11 i 2 fun v31 v32 v33 =>
                spec_l04Before k v31 v32 v33 v27 v28 v29 fun v34 =>
                bif v34 then
                  spec_l04Normal_l3 k (w64 (i + 1)) t6 t7 t8 t9 t10 t11 x x1 x2 v31 v32 v33 b0 r0
                else
                  spec_l04Normal_l3 k (w64 (i + 1)) t6 t7 t8 t9 t10 t11 x x1 x2 v27 v28 v29 b0 r0
            else
            bif decide (i = 2) then
              spec_l04Normal_l3 k (w64 (i + 1)) t6 t7 t8 t9 t10 t11 x x1 x2 v19 v20 v21 b0 r0
            else
              spec_l04Shape k t6 t7 t8 t9 t10 t11 i 2 fun v35 v36 v37 =>
              spec_l04Before k v35 v36 v37 v19 v20 v21 fun v38 =>
              bif v38 then
                spec_l04Normal_l3 k (w64 (i + 1)) t6 t7 t8 t9 t10 t11 x x1 x2 v35 v36 v37 b0 r0
              else
                spec_l04Normal_l3 k (w64 (i + 1)) t6 t7 t8 t9 t10 t11 x x1 x2 v19 v20 v21 b0 r0
        else
        bif decide (i = 1) then
          bif decide (i = 2) then
            spec_l04Normal_l3 k (w64 (i + 1)) t6 t7 t8 t9 t10 t11 x x1 x2 out out1 out2 b0 r0
          else
            spec_l04Shape k t6 t7 t8 t9 t10 t11 i 2 fun v39 v40 v41 =>
            spec_l04Before k v39 v40 v41 out out1 out2 fun v42 =>
            bif v42 then
              spec_l04Normal_l3 k (w64 (i + 1)) t6 t7 t8 t9 t10 t11 x x1 x2 v39 v40 v41 b0 r0
            else
              spec_l04Normal_l3 k (w64 (i + 1)) t6 t7 t8 t9 t10 t11 x x1 x2 out out1 out2 b0 r0
        else
          spec_l04Shape k t6 t7 t8 t9 t10 t11 i 1 fun v43 v44 v45 =>
          spec_l04Before k v43 v44 v45 out out1 out2 fun v46 =>
          bif v46 then
            bif decide (i = 2) then
              spec_l04Normal_l3 k (w64 (i + 1)) t6 t7 t8 t9 t10 t11 x x1 x2 v43 v44 v45 b0 r0
            else
              spec_l04Shape k t6 t7 t8 t9 t10 t11 i 2 fun v47 v48 v49 =>
              spec_l04Before k v47 v48 v49 v43 v44 v45 fun v50 =>
              bif v50 then
                spec_l04Normal_l3 k (w64 (i + 1)) t6 t7 t8 t9 t10 t11 x x1 x2 v47 v48 v49 b0 r0
              else
                spec_l04Normal_l3 k (w64 (i + 1)) t6 t7 t8 t9 t10 t11 x x1 x2 v43 v44 v45 b0 r0
          else
          bif decide (i = 2) then
            spec_l04Normal_l3 k (w64 (i + 1)) t6 t7 t8 t9 t10 t11 x x1 x2 out out1 out2 b0 r0
          else
            spec_l04Shape k t6 t7 t8 t9 t10 t11 i 2 fun v51 v52 v53 =>
            spec_l04Before k v51 v52 v53 out out1 out2 fun v54 =>
            bif v54 then
              spec_l04Normal_l3 k (w64 (i + 1)) t6 t7 t8 t9 t10 t11 x x1 x2 v51 v52 v53 b0 r0
            else
              spec_l04Normal_l3 k (w64 (i + 1)) t6 t7 t8 t9 t10 t11 x x1 x2 out out1 out2 b0 r0
    else
      b0 i t6 t7 t8 t9 t10 t11 x x1 x2 out out1 out2

/-- loop.example/g01297/spec.l04Normal -/
def spec_l04Normal {α : Type} (k : Nat) (t : Int) (t1 : Int) (t2 : Int) (t3 : Int) (t4 : Int) (t5 : Int) (r0 : Int → Int → Int → Option α) : Option α :=
  spec_l04Shape k t t1 t2 t3 t4 t5 0 1 fun v v1 v2 =>
  spec_l04Normal_l3 k 0 t t1 t2 t3 t4 t5 0 0 0 v v1 v2
    (fun _ _ _ _ _ _ _ _ _ _ out3 out4 out5 =>
      r0 out3 out4 out5)
    r0

/-- loop.example/g01297/spec.NormalShape -/
def spec_NormalShape {α : Type} (k : Nat) (t : Int) (t1 : Int) (t2 : Int) (t3 : Int) (t4 : Int) (t5 : Int) (r0 : Int → Int → Int → Int → Option α) : Option α :=
  spec_l04Is k t t1 t2 t3 t4 t5 fun v =>
  bif (!v) then
    r0 0 0 0 1
  else
    spec_l04Normal k t t1 t2 t3 t4 t5 fun v1 v2 v3 =>
    r0 v1 v2 v3 0

/-- loop.example/g01297/spec.DrawShapeOf -/
def spec_DrawShapeOf {α : Type} (k : Nat) (code : List Int) (r0 : Int → Int → Int → Int → Int → Int → Int → Int → Option α) : Option α :=
  spec_l01From k code fun v v1 =>
  spec_l01Next k code v v1 3 fun v2 v3 v4 =>
  spec_l04Spoil k code v3 v4 fun v5 v6 v7 v8 v9 v10 v11 v12 =>
  spec_l01Next k code v11 v12 2 fun v13 v14 v15 =>
  spec_l01Next k code v14 v15 16 fun v16 _ _ =>
  r0 v5 v6 v7 v8 v9 v10 v2 (Int.tmod (w64 ((w64 ((w64 (v2 + 1)) + v13)) + (w64 (Int.tdiv v16 15)))) 4)

/-- loop.example/g01297/impl.ShapeOf -/
def impl_ShapeOf {α : Type} (k : Nat) (t : Int) (t1 : Int) (t2 : Int) (t3 : Int) (t4 : Int) (t5 : Int) (i : Int) (j : Int) (r0 : Int → Int → Int → Int → Option α) : Option α :=
  impl_IsTriangle k t t1 t2 t3 t4 t5 fun v =>
  bif (!v) then
    r0 0 0 0 1
  else
    impl_in k i 0 2 fun v1 =>
    bif (!v1) then
      r0 0 0 0 2
    else
      impl_in k j 0 2 fun v2 =>
      bif (!v2) then
        r0 0 0 0 2
      else
      bif decide (i = j) then
        r0 0 0 0 2
      else
        impl_Triangle_shape k t t1 t2 t3 t4 t5 i j fun v3 v4 v5 =>
        r0 v3 v4 v5 0

/-- loop.example/g01297/spec.ShapeOf -/
def spec_ShapeOf {α : Type} (k : Nat) (t : Int) (t1 : Int) (t2 : Int) (t3 : Int) (t4 : Int) (t5 : Int) (i : Int) (j : Int) (r0 : Int → Int → Int → Int → Option α) : Option α :=
  spec_l04Is k t t1 t2 t3 t4 t5 fun v =>
  bif (!v) then
    r0 0 0 0 1
  else
    spec_l01In k i 0 2 fun v1 =>
    bif (!v1) then
      r0 0 0 0 2
    else
      spec_l01In k j 0 2 fun v2 =>
      bif (!v2) then
        r0 0 0 0 2
      else
      bif decide (i = j) then
        r0 0 0 0 2
      else
        spec_l04Shape k t t1 t2 t3 t4 t5 i j fun v3 v4 v5 =>
        r0 v3 v4 v5 0

/-- loop.example/g01297/spec.l01Near -/
def spec_l01Near {α : Type} (k : Nat) (s : List Int) (s1 : Int) (s2 : Int) (most : Int) (r0 : Int → Int → Int → Option α) : Option α :=
  spec_l01Next k s s1 s2 14 fun v v1 v2 =>
  bif decide (v = 0) then
    spec_l01Pick k s v1 v2 [(-1), (w64 (most + 1)), 1099511627776, (-4611686018427387904)] fun v3 v4 v5 =>
    r0 v3 v4 v5
  else
    spec_l01Next k s v1 v2 (w64 (most + 1)) fun v6 v7 v8 =>
    r0 v6 v7 v8

/-- loop.example/g01297/spec.DrawTriangleOf -/
def spec_DrawTriangleOf {α : Type} (k : Nat) (code : List Int) (r0 : Int → Int → Int → Option α) : Option α :=
  spec_l01From k code fun v v1 =>
  spec_l01Next k code v v1 6 fun v2 v3 v4 =>
  spec_l01Next k code v3 v4 9 fun v5 v6 v7 =>
  spec_l01Near k code v6 v7 1000 fun v8 v9 v10 =>
  spec_l01Pick k code v9 v10 [(w64 (1 + v5)), v8] fun v11 v12 v13 =>
  spec_l01Next k code v12 v13 12 fun v14 v15 v16 =>
  spec_l01Next k code v15 v16 (w64 ((max v11 1) + (w64 (Int.tdiv v14 11)))) fun v17 v18 v19 =>
  spec_l01Next k code v18 v19 24 fun v20 v21 v22 =>
  bif decide (v20 = 0) then
    spec_l01Pick k code v21 v22 [0, 1000, 1001] fun v23 _ _ =>
    r0 v23 v17 v11
  else
    r0 (w64 (1 + v2)) v17 v11

/-- (loop.example/g01297/impl.Shape).triangle -/
def impl_Shape_triangle {α : Type} (k : Nat) (x : Int) (x1 : Int) (x2 : Int) (r0 : Int → Int → Int → Int → Int → Int → Option α) : Option α :=
  r0 0 0 x 0 x1 x2

/-- loop.example/g01297/impl.TriangleOf -/
def impl_TriangleOf {α : Type} (k : Nat) (x : Int) (x1 : Int) (x2 : Int) (r0 : Int → Int → Int → Int → Int → Int → Int → Option α) : Option α :=
  impl_in k x 1 1000 fun v =>
  bif (!v) then
    r0 0 0 0 0 0 0 2
  else
    impl_in k x2 1 1000 fun v1 =>
    bif (!v1) then
      r0 0 0 0 0 0 0 2
    else
      impl_in k x1 0 (w64 (x2 - 1)) fun v2 =>
      bif (!v2) then
        r0 0 0 0 0 0 0 2
      else
        impl_Shape_triangle k x x1 x2 fun v3 v4 v5 v6 v7 v8 =>
        r0 v3 v4 v5 v6 v7 v8 0

/-- loop.example/g01297/spec.l04Of -/
def spec_l04Of {α : Type} (k : Nat) (x : Int) (x1 : Int) (x2 : Int) (r0 : Int → Int → Int → Int → Int → Int → Option α) : Option α :=
  r0 0 0 x 0 x1 x2

/-- loop.example/g01297/spec.TriangleOf -/
def spec_TriangleOf {α : Type} (k : Nat) (x : Int) (x1 : Int) (x2 : Int) (r0 : Int → Int → Int → Int → Int → Int → Int → Option α) : Option α :=
  spec_l01In k x 1 1000 fun v =>
  bif (!v) then
    r0 0 0 0 0 0 0 2
  else
    spec_l01In k x2 1 1000 fun v1 =>
    bif (!v1) then
      r0 0 0 0 0 0 0 2
    else
      spec_l01In k x1 0 (w64 (x2 - 1)) fun v2 =>
      bif (!v2) then
        r0 0 0 0 0 0 0 2
      else
        spec_l04Of k x x1 x2 fun v3 v4 v5 v6 v7 v8 =>
        r0 v3 v4 v5 v6 v7 v8 0

/-- loop.example/g01297/spec.l04Small -/
def spec_l04Small {α : Type} (k : Nat) (s : List Int) (s1 : Int) (s2 : Int) (r0 : Int → Int → Int → Int → Int → Int → Int → Int → Option α) : Option α :=
  spec_l01DrawPoint k s s1 s2 12 fun v v1 v2 v3 =>
  spec_l01DrawPoint k s v2 v3 12 fun v4 v5 v6 v7 =>
  spec_l01DrawPoint k s v6 v7 12 fun v8 v9 v10 v11 =>
  spec_l01Area k v v1 v4 v5 v8 v9 fun v12 =>
  bif decide (v12 = 0) then
    spec_l04Spoil k s v10 v11 fun v13 v14 v15 v16 v17 v18 v19 v20 =>
    r0 v13 v14 v15 v16 v17 v18 v19 v20
  else
    spec_l01Next k s v10 v11 12 fun v21 v22 v23 =>
    bif decide (v21 = 0) then
      spec_l04Spoil k s v22 v23 fun v24 v25 v26 v27 v28 v29 v30 v31 =>
      r0 v24 v25 v26 v27 v28 v29 v30 v31
    else
      r0 v v1 v4 v5 v8 v9 v22 v23

/-- loop.example/g01297/spec.l01Times -/
def spec_l01Times {α : Type} (k : Nat) (m : Int) (m1 : Int) (m2 : Int) (m3 : Int) (n_ : Int) (n_1 : Int) (n_2 : Int) (n_3 : Int) (r0 : Int → Int → Int → Int → Option α) : Option α :=
  r0 (w64 ((w64 (m * n_)) + (w64 (m1 * n_2)))) (w64 ((w64 (m * n_1)) + (w64 (m1 * n_3)))) (w64 ((w64 (m2 * n_)) + (w64 (m3 * n_2)))) (w64 ((w64 (m2 * n_1)) + (w64 (m3 * n_3))))

def spec_l01DrawUnit_l3 {α : Type} : Nat → Int → Int → Int → Int → Int → Int → Int → Int → Int → Int → Int → List Int → (Int → Int → Int → Int → Int → Int → Int → Int → Int → Int → Int → List Int → Option α) → (Int → Int → Int → Int → Int → Int → Option α) → Option α
  | 0, _, _, _, _, _, _, _, _, _, _, _, _, _, _ => none
  | k + 1, n_, s3, s4, x, x1, x2, x3, out, out1, out2, out3, b_, b0, r0 =>
    bif decide (0 < n_) then
      spec_l01Next k b_ s3 s4 7 fun v3 v4 v5 =>
      spec_l01Next k b_ v4 v5 3 fun v6 v7 v8 =>
      bif decide (v6 = 0) then
        spec_l01Times k out out1 out2 out3 1 (w64 (v3 - 3)) 0 1 fun v9 v10 v11 v12 =>
        spec_l01DrawUnit_l3 k (w64 (n_ - 1)) v7 v8 x x1 x2 x3 v9 v10 v11 v12 b_ b0 r0
      else
      bif decide (v6 = 1) then
        spec_l01Times k out out1 out2 out3 1 0 (w64 (v3 - 3)) 1 fun v13 v14 v15 v16 =>
        spec_l01DrawUnit_l3 k (w64 (n_ - 1)) v7 v8 x x1 x2 x3 v13 v14 v15 v16 b_ b0 r0
      else
        spec_l01Times k out out1 out2 out3 0 1 1 0 fun v17 v18 v19 v20 =>
        spec_l01DrawUnit_l3 k (w64 (n_ - 1)) v7 v8 x x1 x2 x3 v17 v18 v19 v20 b_ b0 r0
    else
      b0 n_ s3 s4 x x1 x2 x3 out out1 out2 out3 b_

/-- loop.example/g01297/spec.l01DrawUnit -/
def spec_l01DrawUnit {α : Type} (k : Nat) (s : List Int) (s1 : Int) (s2 : Int) (r0 : Int → Int → Int → Int → Int → Int → Option α) : Option α :=
  spec_l01Next k s s1 s2 5 fun v v1 v2 =>
  spec_l01DrawUnit_l3 k v v1 v2 0 0 0 0 1 0 0 1 s
    (fun _ s5 s6 _ _ _ _ out4 out5 out6 out7 _ =>
      r0 out4 out5 out6 out7 s5 s6)
    r0

/-- loop.example/g01297/spec.l01Apply -/
def spec_l01Apply {α : Type} (k : Nat) (m : Int) (m1 : Int) (m2 : Int) (m3 : Int) (a : Int) (a1 : Int) (r0 : Int → Int → Option α) : Option α :=
  r0 (w64 ((w64 (m * a)) + (w64 (m1 * a1)))) (w64 ((w64 (m2 * a)) + (w64 (m3 * a1))))

/-- loop.example/g01297/spec.DrawAreEqualTriangles -/
def spec_DrawAreEqualTriangles {α : Type} (k : Nat) (code : List Int) (r0 : Int → Int → Int → Int → Int → Int → Int → Int → Int → Int → Int → Int → Option α) : Option α :=
  spec_l01From k code fun v v1 =>
  spec_l04Small k code v v1 fun v2 v3 v4 v5 v6 v7 v8 v9 =>
  spec_l01DrawUnit k code v8 v9 fun v10 v11 v12 v13 v14 v15 =>
  spec_l01DrawPoint k code v14 v15 5 fun v16 v17 v18 v19 =>
  spec_l01Apply k v10 v11 v12 v13 v2 v3 fun v20 v21 =>
  spec_l01Plus k v20 v21 v16 v17 1 fun v22 v23 =>
  spec_l01Apply k v10 v11 v12 v13 v4 v5 fun v24 v25 =>
  spec_l01Plus k v24 v25 v16 v17 1 fun v26 v27 =>
  spec_l01Apply k v10 v11 v12 v13 v6 v7 fun v28 v29 =>
  spec_l01Plus k v28 v29 v16 v17 1 fun v30 v31 =>
  spec_l04Is k v30 v31 v22 v23 v26 v27 fun v32 =>
  bif (!v32) then
    spec_l04Small k code v18 v19 fun v33 v34 v35 v36 v37 v38 _ _ =>
    r0 v2 v3 v4 v5 v6 v7 v33 v34 v35 v36 v37 v38
  else
    spec_l01Next k code v18 v19 3 fun v41 v42 v43 =>
    bif decide (v41 = 0) then
      spec_l04Small k code v42 v43 fun v44 v45 v46 v47 v48 v49 _ _ =>
      r0 v2 v3 v4 v5 v6 v7 v44 v45 v46 v47 v48 v49
    else
      r0 v2 v3 v4 v5 v6 v7 v30 v31 v22 v23 v26 v27

/-- loop.example/g01297/impl.AreEqualTriangles -/
def impl_AreEqualTriangles {α : Type} (k : Nat) (t : Int) (t1 : Int) (t2 : Int) (t3 : Int) (t4 : Int) (t5 : Int) (u : Int) (u1 : Int) (u2 : Int) (u3 : Int) (u4 : Int) (u5 : Int) (r0 : Bool → Int → Option α) : Option α :=
  impl_IsTriangle k t t1 t2 t3 t4 t5 fun v =>
  bif (!v) then
    r0 false 1
  else
    impl_IsTriangle k u u1 u2 u3 u4 u5 fun v1 =>
    bif (!v1) then
      r0 false 1
    else
      impl_Triangle_normal k t t1 t2 t3 t4 t5 fun v2 v3 v4 =>
      impl_Triangle_normal k u u1 u2 u3 u4 u5 fun v5 v6 v7 =>
      r0 (decide (v2 = v5) && (decide (v3 = v6) && decide (v4 = v7))) 0

/-- loop.example/g01297/spec.AreEqualTriangles -/
def spec_AreEqualTriangles {α : Type} (k : Nat) (t : Int) (t1 : Int) (t2 : Int) (t3 : Int) (t4 : Int) (t5 : Int) (u : Int) (u1 : Int) (u2 : Int) (u3 : Int) (u4 : Int) (u5 : Int) (r0 : Bool → Int → Option α) : Option α :=
  spec_l04Is k t t1 t2 t3 t4 t5 fun v =>
  bif (!v) then
    r0 false 1
  else
    spec_l04Is k u u1 u2 u3 u4 u5 fun v1 =>
    bif (!v1) then
      r0 false 1
    else
      spec_l04Normal k t t1 t2 t3 t4 t5 fun v2 v3 v4 =>
      spec_l04Normal k u u1 u2 u3 u4 u5 fun v5 v6 v7 =>
      r0 (decide (v2 = v5) && (decide (v3 = v6) && decide (v4 = v7))) 0

/-- loop.example/g01297/spec.DrawTrianglesOfArea -/
def spec_DrawTrianglesOfArea {α : Type} (k : Nat) (code : List Int) (r0 : Int → Option α) : Option α :=
  spec_l01From k code fun v v1 =>
  spec_l01Next k code v v1 20 fun v2 v3 v4 =>
  spec_l01Next k code v3 v4 60 fun v5 v6 v7 =>
  spec_l01Near k code v6 v7 200 fun v8 v9 v10 =>
  spec_l01Pick k code v9 v10 [(w64 (1 + v2)), v5, v8] fun v11 _ _ =>
  r0 v11

/-- slices.SortFunc[[]loop.example/g01297/impl.Shape,loop.example/g01297/impl.Shape]: as the shelf has it -/
noncomputable def slices_SortFunc_impl_Shape_impl_Shape_1F_impl_shapeOrder {α : Type} (k : Nat) (x : List (Int × Int × Int)) (r0 : (List (Int × Int × Int)) → Option α) : Option α := sortK (fun (p q : Int × Int × Int) => impl_shapeOrder k p.1 p.2.1 p.2.2 q.1 q.2.1 q.2.2) x r0

def slices_Compact_impl_Shape_impl_Shape_l9 {α : Type} : Nat → Int → Nat → Nat → Int → (List (Int × Int × Int)) → (Int → Nat → Nat → Int → (List (Int × Int × Int)) → Option α) → ((List (Int × Int × Int)) → Option α) → Option α
  | 0, _, _, _, _, _, _, _ => none
  | k + 1, k_1, s2_, s2_1, k2_, s2, b2, r0 =>
    bif decide (k2_ < ((s2_1 : Nat) : Int)) then
      bif (decide (0 ≤ k2_) && decide (k2_ < ((s2_1 : Nat) : Int))) then
        (s2[(moved s2_ k2_.toNat 1)]?).bind fun e_2 =>
        bif (decide (0 ≤ (w64 (k2_ - 1))) && decide ((w64 (k2_ - 1)) < ((s2_1 : Nat) : Int))) then
          (s2[(moved s2_ ((w64 (k2_ - 1)).toNat) 1)]?).bind fun e_3 =>
          bif (!(decide (e_2.1 = e_3.1) && (decide (e_2.2.1 = e_3.2.1) && decide (e_2.2.2 = e_3.2.2)))) then
            bif (decide (0 ≤ k2_) && decide (k2_ < ((s2_1 : Nat) : Int))) then
              (s2[(moved s2_ k2_.toNat 1)]?).bind fun e_4 =>
              bif (decide (0 ≤ k_1) && decide (k_1 < (((List.length s2) : Nat) : Int))) then
                (s2[k_1.toNat]?).bind fun _ =>
                slices_Compact_impl_Shape_impl_Shape_l9 k (w64 (k_1 + 1)) s2_ s2_1 (w64 (k2_ + 1)) (List.set s2 k_1.toNat (e_4.1, e_4.2.1, e_4.2.2)) b2 r0
              else
                none
            else
              none
          else
            slices_Compact_impl_Shape_impl_Shape_l9 k k_1 s2_ s2_1 (w64 (k2_ + 1)) s2 b2 r0
        else
          none
      else
        none
    else
      b2 k_1 s2_ s2_1 k2_ s2

def slices_Compact_impl_Shape_impl_Shape_l4 {α : Type} : Nat → Int → (List (Int × Int × Int)) → (Int → (List (Int × Int × Int)) → Option α) → ((List (Int × Int × Int)) → Option α) → Option α
  | 0, _, _, _, _ => none
  | k + 1, k_, s1, b0, r0 =>
    bif decide (k_ < (((List.length s1) : Nat) : Int)) then
      bif (decide (0 ≤ k_) && decide (k_ < (((List.length s1) : Nat) : Int))) then
        (s1[k_.toNat]?).bind fun e_ =>
        bif (decide (0 ≤ (w64 (k_ - 1))) && decide ((w64 (k_ - 1)) < (((List.length s1) : Nat) : Int))) then
          (s1[(w64 (k_ - 1)).toNat]?).bind fun e_1 =>
          bif (decide (e_.1 = e_1.1) && (decide (e_.2.1 = e_1.2.1) && decide (e_.2.2 = e_1.2.2))) then
            bif (decide (0 ≤ k_) && decide (k_ ≤ (((List.length s1) : Nat) : Int))) then
              slices_Compact_impl_Shape_impl_Shape_l9 k k_ k_.toNat ((List.length s1) - k_.toNat) 1 s1
                (fun k_2 _ _ _ s3 =>
                  bif (decide (0 ≤ k_2) && decide (k_2 ≤ (((List.length s3) : Nat) : Int))) then
                    bif (decide (0 ≤ k_2) && decide (k_2 ≤ (((List.length (((List.take k_2.toNat s3) ++ (List.replicate ((List.length s3) - k_2.toNat) (0, 0, 0))) ++ (List.drop (k_2.toNat + ((List.length s3) - k_2.toNat)) s3))) : Nat) : Int))) then
                      r0 (List.take (k_2.toNat - 0) (((List.take k_2.toNat s3) ++ (List.replicate ((List.length s3) - k_2.toNat) (0, 0, 0))) ++ (List.drop (k_2.toNat + ((List.length s3) - k_2.toNat)) s3)))
                    else
                      none
                  else
                    none)
                r0
            else
              none
          else
            slices_Compact_impl_Shape_impl_Shape_l4 k (w64 (k_ + 1)) s1 b0 r0
        else
          none
      else
        none
    else
      b0 k_ s1

/-- slices.Compact[[]loop.example/g01297/impl.Shape,loop.example/g01297/impl.Shape] -/
def slices_Compact_impl_Shape_impl_Shape {α : Type} (k : Nat) (s : List (Int × Int × Int)) (r0 : (List (Int × Int × Int)) → Option α) : Option α :=
  bif decide ((((List.length s) : Nat) : Int) < 2) then
    r0 s
  else
    slices_Compact_impl_Shape_impl_Shape_l4 k 1 s
      (fun _ s4 =>
        r0 s4)
      r0

noncomputable def impl_TrianglesOfArea_l9 {α : Type} : Nat → Int → Int → Int → Int → (List (Int × Int × Int)) → (Int → Int → Int → Int → (List (Int × Int × Int)) → Option α) → (Int → Option α) → ((List (Int × Int × Int)) → Int → Option α) → Option α
  | 0, _, _, _, _, _, _, _, _ => none
  | k + 1, n_2, long1, x, x1, out1, b2, r0, r1 =>
    bif decide (x1 < x) then
      bif decide (long1 = 0) then
        none
      else
        impl_Shape_triangle k long1 x1 (w64 (Int.tdiv n_2 long1)) fun v1 v2 v3 v4 v5 v6 =>
        impl_Triangle_normal k v1 v2 v3 v4 v5 v6 fun v7 v8 v9 =>
        bif decide (((List.length out1) + 1) ≤ big) then
          impl_TrianglesOfArea_l9 k n_2 long1 x (w64 (x1 + 1)) (out1 ++ [(v7, v8, v9)]) b2 r0 r1
        else
          none
    else
      b2 n_2 long1 x x1 out1

noncomputable def impl_TrianglesOfArea_l5 {α : Type} : Nat → Int → Int → (List (Int × Int × Int)) → (Int → Int → (List (Int × Int × Int)) → Option α) → (Int → Option α) → ((List (Int × Int × Int)) → Int → Option α) → Option α
  | 0, _, _, _, _, _, _ => none
  | k + 1, n_1, long, out, b0, r0, r1 =>
    bif decide (long ≤ n_1) then
      bif decide (long = 0) then
        none
      else
      bif (!decide ((Int.tmod n_1 long) = 0)) then
        impl_TrianglesOfArea_l5 k n_1 (w64 (long + 1)) out b0 r0 r1
      else
      bif decide (long = 0) then
        none
      else
        impl_TrianglesOfArea_l9 k n_1 long (w64 (Int.tdiv n_1 long)) 0 out
          (fun n_3 long2 _ _ out2 =>
            impl_TrianglesOfArea_l5 k n_3 (w64 (long2 + 1)) out2 b0 r0 r1)
          r0 r1
    else
      b0 n_1 long out

/-- loop.example/g01297/impl.TrianglesOfArea -/
noncomputable def impl_TrianglesOfArea {α : Type} (k : Nat) (n_ : Int) (r0 : Int → Option α) (r1 : (List (Int × Int × Int)) → Int → Option α) : Option α :=
  impl_in k n_ 1 200 fun v =>
  bif (!v) then
    r0 2
  else
    impl_TrianglesOfArea_l5 k n_ 1 []
      (fun _ _ out3 =>
        slices_SortFunc_impl_Shape_impl_Shape_1F_impl_shapeOrder k out3 fun v10 =>
        slices_Compact_impl_Shape_impl_Shape k v10 fun v11 =>
        r1 v11 0)
      r0 r1

def spec_TrianglesOfArea_l9 {α : Type} : Nat → Int → Int → Int → (List (Int × Int × Int)) → (Int → Int → Int → (List (Int × Int × Int)) → Option α) → (Int → Option α) → ((List (Int × Int × Int)) → Int → Option α) → Option α
  | 0, _, _, _, _, _, _, _ => none
  | k + 1, n_2, length1, x, out1, b2, r0, r1 =>
    bif decide (length1 = 0) then
      none
    else
    bif decide (x < (w64 (Int.tdiv n_2 length1))) then
      bif decide (length1 = 0) then
        none
      else
        spec_l04Of k length1 x (w64 (Int.tdiv n_2 length1)) fun v1 v2 v3 v4 v5 v6 =>
        spec_l04Normal k v1 v2 v3 v4 v5 v6 fun v7 v8 v9 =>
        bif (decide (v7 = length1) && (decide (v8 = x) && decide (v9 = (w64 (Int.tdiv n_2 length1))))) then
          bif decide (((List.length out1) + 1) ≤ big) then
            spec_TrianglesOfArea_l9 k n_2 length1 (w64 (x + 1)) (out1 ++ [(length1, x, (w64 (Int.tdiv n_2 length1)))]) b2 r0 r1
          else
            none
        else
          spec_TrianglesOfArea_l9 k n_2 length1 (w64 (x + 1)) out1 b2 r0 r1
    else
      b2 n_2 length1 x out1

def spec_TrianglesOfArea_l5 {α : Type} : Nat → Int → Int → (List (Int × Int × Int)) → (Int → Int → (List (Int × Int × Int)) → Option α) → (Int → Option α) → ((List (Int × Int × Int)) → Int → Option α) → Option α
  | 0, _, _, _, _, _, _ => none
  | k + 1, n_1, length, out, b0, r0, r1 =>
    bif decide (length ≤ n_1) then
      bif decide (length = 0) then
        none
      else
      bif (!decide ((Int.tmod n_1 length) = 0)) then
        spec_TrianglesOfArea_l5 k n_1 (w64 (length + 1)) out b0 r0 r1
      else
        spec_TrianglesOfArea_l9 k n_1 length 0 out
          (fun n_3 length2 _ out2 =>
            spec_TrianglesOfArea_l5 k n_3 (w64 (length2 + 1)) out2 b0 r0 r1)
          r0 r1
    else
      b0 n_1 length out

/-- loop.example/g01297/spec.TrianglesOfArea -/
def spec_TrianglesOfArea {α : Type} (k : Nat) (n_ : Int) (r0 : Int → Option α) (r1 : (List (Int × Int × Int)) → Int → Option α) : Option α :=
  spec_l01In k n_ 1 200 fun v =>
  bif (!v) then
    r0 2
  else
    spec_TrianglesOfArea_l5 k n_ 1 []
      (fun _ _ out3 =>
        r1 out3 0)
      r0 r1

/-- loop.example/g01297/impl.ofTriangle -/
def impl_ofTriangle_1F_impl_Triangle_area {α : Type} (k : Nat) (t : Int) (t1 : Int) (t2 : Int) (t3 : Int) (t4 : Int) (t5 : Int) (r0 : Int → Int → Option α) : Option α :=
  impl_IsTriangle k t t1 t2 t3 t4 t5 fun v =>
  bif (!v) then
    r0 0 1
  else
    impl_Triangle_area k t t1 t2 t3 t4 t5 fun v1 =>
    r0 v1 0

/-- loop.example/g01297/impl.AreaOfTriangle -/
def impl_AreaOfTriangle {α : Type} (k : Nat) (t : Int) (t1 : Int) (t2 : Int) (t3 : Int) (t4 : Int) (t5 : Int) (r0 : Int → Int → Option α) : Option α :=
  impl_ofTriangle_1F_impl_Triangle_area k t t1 t2 t3 t4 t5 fun v v1 =>
  r0 v v1

/-- (loop.example/g01297/impl.Triangle).boundary -/
def impl_Triangle_boundary {α : Type} (k : Nat) (t : Int) (t1 : Int) (t2 : Int) (t3 : Int) (t4 : Int) (t5 : Int) (r0 : Int → Option α) : Option α :=
  impl_Triangle_side k t t1 t2 t3 t4 t5 0 1 fun v v1 =>
  impl_Point_length k v v1 fun v2 =>
  impl_Triangle_side k t t1 t2 t3 t4 t5 1 2 fun v3 v4 =>
  impl_Point_length k v3 v4 fun v5 =>
  impl_Triangle_side k t t1 t2 t3 t4 t5 2 0 fun v6 v7 =>
  impl_Point_length k v6 v7 fun v8 =>
  r0 (w64 ((w64 (v2 + v5)) + v8))

/-- loop.example/g01297/impl.ofTriangle -/
def impl_ofTriangle_1F_impl_Triangle_boundary {α : Type} (k : Nat) (t : Int) (t1 : Int) (t2 : Int) (t3 : Int) (t4 : Int) (t5 : Int) (r0 : Int → Int → Option α) : Option α :=
  impl_IsTriangle k t t1 t2 t3 t4 t5 fun v =>
  bif (!v) then
    r0 0 1
  else
    impl_Triangle_boundary k t t1 t2 t3 t4 t5 fun v1 =>
    r0 v1 0

/-- loop.example/g01297/impl.BoundaryOf -/
def impl_BoundaryOf {α : Type} (k : Nat) (t : Int) (t1 : Int) (t2 : Int) (t3 : Int) (t4 : Int) (t5 : Int) (r0 : Int → Int → Option α) : Option α :=
  impl_ofTriangle_1F_impl_Triangle_boundary k t t1 t2 t3 t4 t5 fun v v1 =>
  r0 v v1

noncomputable def laws_FnShapes_l29 {α : Type} : Nat → Int → Int → Bool → Int → Int → Int → Int → Int → Int → Int → Int → Int → Int → Int → Int → Int → Int → Int → Int → Int → Int → Int → Int → Int → Int → Int → Int → Int → Int → Int → Int → Int → Int → Int → Int → Int → Int → (List (Int × Int × Int)) → (List (Int × Int × Int)) → (Int → Int → Bool → Int → Int → Int → Int → Int → Int → Int → Int → Int → Int → Int → Int → Int → Int → Int → Int → Int → Int → Int → Int → Int → Int → Int → Int → Int → Int → Int → Int → Int → Int → Int → Int → Int → Int → (List (Int × Int × Int)) → (List (Int × Int × Int)) → Option α) → (Bool → Option α) → Option α
  | 0, _, _, _, _, _, _, _, _, _, _, _, _, _, _, _, _, _, _, _, _, _, _, _, _, _, _, _, _, _, _, _, _, _, _, _, _, _, _, _, _, _ => none
  | k + 1, one, three, equal, four, n_, five, k_, t, t1, t2, t3, t4, t5, normal, normal1, normal2, x, x1, x2, of, of1, of2, of3, of4, of5, v67, v68, v69, v70, v71, v72, w, w1, w2, w3, w4, w5, list, due, b0, r0 =>
    bif decide (k_ < (((List.length list) : Nat) : Int)) then
      bif (decide (0 ≤ k_) && decide (k_ < (((List.length list) : Nat) : Int))) then
        (list[k_.toNat]?).bind fun e_ =>
        bif (decide (0 ≤ k_) && decide (k_ < (((List.length due) : Nat) : Int))) then
          (due[k_.toNat]?).bind fun e_1 =>
          bif (!(decide (e_.1 = e_1.1) && (decide (e_.2.1 = e_1.2.1) && decide (e_.2.2 = e_1.2.2)))) then
            r0 false
          else
            laws_FnShapes_l29 k one three equal four n_ five (w64 (k_ + 1)) t t1 t2 t3 t4 t5 normal normal1 normal2 x x1 x2 of of1 of2 of3 of4 of5 v67 v68 v69 v70 v71 v72 w w1 w2 w3 w4 w5 list due b0 r0
        else
          none
      else
        none
    else
      b0 one three equal four n_ five k_ t t1 t2 t3 t4 t5 normal normal1 normal2 x x1 x2 of of1 of2 of3 of4 of5 v67 v68 v69 v70 v71 v72 w w1 w2 w3 w4 w5 list due

/-- loop.example/g01297/laws.FnShapes -/
def laws_FnShapes_b0 {α : Type} (F0 : Nat → List Int → (Bool → Option α) → Option α) (F1 : Nat → List Int → (Int → Int → Int → Int → Int → Int → Option α) → Option α) (F2 : Nat → Int → Int → Int → Int → Int → Int → (Int → Int → Int → Int → Option α) → Option α) (F3 : Nat → Int → Int → Int → Int → Int → Int → (Int → Int → Int → Int → Option α) → Option α) (F4 : Nat → List Int → (Int → Int → Int → Int → Int → Int → Int → Int → Option α) → Option α) (F5 : Nat → Int → Int → Int → Int → Int → Int → Int → Int → (Int → Int → Int → Int → Option α) → Option α) (F6 : Nat → Int → Int → Int → Int → Int → Int → Int → Int → (Int → Int → Int → Int → Option α) → Option α) (F7 : Nat → List Int → (Int → Int → Int → Option α) → Option α) (F8 : Nat → Int → Int → Int → (Int → Int → Int → Int → Int → Int → Int → Option α) → Option α) (F9 : Nat → Int → Int → Int → (Int → Int → Int → Int → Int → Int → Int → Option α) → Option α) (F10 : Nat → List Int → (Int → Int → Int → Int → Int → Int → Int → Int → Int → Int → Int → Int → Option α) → Option α) (k : Nat) (code : List Int) (κ7 : Option α) (κ19 : Int → Int → List Int → Int → Int → Int → Int → Int → Int → Int → Int → Int → Int → Int → Int → Int → Int → Int → Int → Int → Int → Int → Int → Int → Int → Int → Int → Int → Int → Int → Int → Int → Int → Option α) (r0 : Bool → Option α) : Option α :=
  F0 k code fun v =>
  bif v then
    r0 true
  else
    F1 k code fun v1 v2 v3 v4 v5 v6 =>
    F2 k v1 v2 v3 v4 v5 v6 fun v7 v8 v9 v10 =>
    F3 k v1 v2 v3 v4 v5 v6 fun v11 v12 v13 v14 =>
    bif (!decide (v10 = v14)) then
      κ7
    else
    bif (!(decide (v7 = v11) && (decide (v8 = v12) && decide (v9 = v13)))) then
      κ7
    else
      F4 k code fun v15 v16 v17 v18 v19 v20 v21 v22 =>
      F5 k v15 v16 v17 v18 v19 v20 v21 v22 fun v23 v24 v25 v26 =>
      F6 k v15 v16 v17 v18 v19 v20 v21 v22 fun v27 v28 v29 v30 =>
      bif (!decide (v26 = v30)) then
        r0 false
      else
      bif (!(decide (v23 = v27) && (decide (v24 = v28) && decide (v25 = v29)))) then
        r0 false
      else
        F7 k code fun v31 v32 v33 =>
        F8 k v31 v32 v33 fun v34 v35 v36 v37 v38 v39 v40 =>
        F9 k v31 v32 v33 fun v41 v42 v43 v44 v45 v46 v47 =>
        bif (!decide (v40 = v47)) then
          r0 false
        else
        bif (!(decide (v34 = v41) && (decide (v35 = v42) && (decide (v36 = v43) && (decide (v37 = v44) && (decide (v38 = v45) && decide (v39 = v46))))))) then
          r0 false
        else
          F10 k code fun v48 v49 v50 v51 v52 v53 v54 v55 v56 v57 v58 v59 =>
          κ19 v10 v40 code v1 v2 v3 v4 v5 v6 v7 v8 v9 v31 v32 v33 v34 v35 v36 v37 v38 v39 v48 v49 v50 v51 v52 v53 v54 v55 v56 v57 v58 v59
def laws_FnShapes_b1 {α : Type}  (k : Nat)  (r0 : Bool → Option α) : Option α :=
  r0 false
def laws_FnShapes_b2 {α : Type} (F11 : Nat → Int → Int → Int → Int → Int → Int → Int → Int → Int → Int → Int → Int → (Bool → Int → Option α) → Option α) (F12 : Nat → Int → Int → Int → Int → Int → Int → Int → Int → Int → Int → Int → Int → (Bool → Int → Option α) → Option α) (F13 : Nat → List Int → (Int → Option α) → Option α) (F14 : Nat → Int → (Int → Option α) → ((List (Int × Int × Int)) → Int → Option α) → Option α) (F15 : Nat → Int → (Int → Option α) → ((List (Int × Int × Int)) → Int → Option α) → Option α) (k : Nat) (one : Int) (three : Int) (code1 : List Int) (t : Int) (t1 : Int) (t2 : Int) (t3 : Int) (t4 : Int) (t5 : Int) (normal : Int) (normal1 : Int) (normal2 : Int) (x : Int) (x1 : Int) (x2 : Int) (of : Int) (of1 : Int) (of2 : Int) (of3 : Int) (of4 : Int) (of5 : Int) (v60 : Int) (v61 : Int) (v62 : Int) (v63 : Int) (v64 : Int) (v65 : Int) (w : Int) (w1 : Int) (w2 : Int) (w3 : Int) (w4 : Int) (w5 : Int) (κ22 : Option α) (κ26 : Int → Int → Bool → Int → Int → Int → Int → Int → Int → Int → Int → Int → Int → Int → Int → Int → Int → Int → Int → Int → Int → Int → Int → Int → Int → Int → Int → Int → Int → Int → Int → Int → Int → Int → Int → Int → Int → (List (Int × Int × Int)) → (List (Int × Int × Int)) → Option α) (r0 : Bool → Option α) : Option α :=
  F11 k v60 v61 v62 v63 v64 v65 w w1 w2 w3 w4 w5 fun v66 v67 =>
  F12 k v60 v61 v62 v63 v64 v65 w w1 w2 w3 w4 w5 fun v68 v69 =>
  bif (!decide (v67 = v69)) then
    κ22
  else
  bif (!(v66 == v68)) then
    κ22
  else
    F13 k code1 fun v70 =>
    F14 k v70
      (fun v71 =>
        F15 k v70
          (fun v72 =>
            κ26 one three v66 v67 v70 v71 v72 t t1 t2 t3 t4 t5 normal normal1 normal2 x x1 x2 of of1 of2 of3 of4 of5 v60 v61 v62 v63 v64 v65 w w1 w2 w3 w4 w5 [] [])
          (fun v73 v74 =>
            κ26 one three v66 v67 v70 v71 v74 t t1 t2 t3 t4 t5 normal normal1 normal2 x x1 x2 of of1 of2 of3 of4 of5 v60 v61 v62 v63 v64 v65 w w1 w2 w3 w4 w5 [] v73))
      (fun v75 v76 =>
        F15 k v70
          (fun v77 =>
            κ26 one three v66 v67 v70 v76 v77 t t1 t2 t3 t4 t5 normal normal1 normal2 x x1 x2 of of1 of2 of3 of4 of5 v60 v61 v62 v63 v64 v65 w w1 w2 w3 w4 w5 v75 [])
          (fun v78 v79 =>
            κ26 one three v66 v67 v70 v76 v79 t t1 t2 t3 t4 t5 normal normal1 normal2 x x1 x2 of of1 of2 of3 of4 of5 v60 v61 v62 v63 v64 v65 w w1 w2 w3 w4 w5 v75 v78))
def laws_FnShapes_b3 {α : Type}  (k : Nat)  (r0 : Bool → Option α) : Option α :=
  r0 false
def laws_FnShapes_b4 {α : Type}  (k : Nat) (one1 : Int) (three1 : Int) (equal : Bool) (four : Int) (n_ : Int) (five : Int) (want : Int) (t6 : Int) (t7 : Int) (t8 : Int) (t9 : Int) (t10 : Int) (t11 : Int) (normal3 : Int) (normal4 : Int) (normal5 : Int) (x3 : Int) (x4 : Int) (x5 : Int) (of6 : Int) (of7 : Int) (of8 : Int) (of9 : Int) (of10 : Int) (of11 : Int) (v80 : Int) (v81 : Int) (v82 : Int) (v83 : Int) (v84 : Int) (v85 : Int) (w6 : Int) (w7 : Int) (w8 : Int) (w9 : Int) (w10 : Int) (w11 : Int) (list : List (Int × Int × Int)) (due : List (Int × Int × Int)) (κ27 : Option α) (κ28 : Int → Int → Bool → Int → Int → Int → Int → Int → Int → Int → Int → Int → Int → Int → Int → Int → Int → Int → Int → Int → Int → Int → Int → Int → Int → Int → Int → Int → Int → Int → Int → Int → Int → Int → Int → Int → (List (Int × Int × Int)) → (List (Int × Int × Int)) → Option α) (r0 : Bool → Option α) : Option α :=
  bif (!decide (five = want)) then
    κ27
  else
  bif (!decide ((((List.length list) : Nat) : Int) = (((List.length due) : Nat) : Int))) then
    κ27
  else
    κ28 one1 three1 equal four n_ five t6 t7 t8 t9 t10 t11 normal3 normal4 normal5 x3 x4 x5 of6 of7 of8 of9 of10 of11 v80 v81 v82 v83 v84 v85 w6 w7 w8 w9 w10 w11 list due
def laws_FnShapes_b5 {α : Type}  (k : Nat)  (r0 : Bool → Option α) : Option α :=
  r0 false
def laws_FnShapes_b6 {α : Type} (G29 : Nat → Int → Int → Bool → Int → Int → Int → Int → Int → Int → Int → Int → Int → Int → Int → Int → Int → Int → Int → Int → Int → Int → Int → Int → Int → Int → Int → Int → Int → Int → Int → Int → Int → Int → Int → Int → Int → Int → (List (Int × Int × Int)) → (List (Int × Int × Int)) → (Int → Int → Bool → Int → Int → Int → Int → Int → Int → Int → Int → Int → Int → Int → Int → Int → Int → Int → Int → Int → Int → Int → Int → Int → Int → Int → Int → Int → Int → Int → Int → Int → Int → Int → Int → Int → Int → (List (Int × Int × Int)) → (List (Int × Int × Int)) → Option α) → (Bool → Option α) → Option α) (k : Nat) (one2 : Int) (three2 : Int) (equal1 : Bool) (four1 : Int) (n_1 : Int) (five1 : Int) (t12 : Int) (t13 : Int) (t14 : Int) (t15 : Int) (t16 : Int) (t17 : Int) (normal6 : Int) (normal7 : Int) (normal8 : Int) (x6 : Int) (x7 : Int) (x8 : Int) (of12 : Int) (of13 : Int) (of14 : Int) (of15 : Int) (of16 : Int) (of17 : Int) (v86 : Int) (v87 : Int) (v88 : Int) (v89 : Int) (v90 : Int) (v91 : Int) (w12 : Int) (w13 : Int) (w14 : Int) (w15 : Int) (w16 : Int) (w17 : Int) (list1 : List (Int × Int × Int)) (due1 : List (Int × Int × Int)) (κ33 : Int → Int → Bool → Int → Int → Int → Int → Int → Int → Int → Int → Int → Int → Int → Int → Int → Int → Int → Int → Int → Int → Int → Int → Int → Int → Int → Int → Int → Int → Int → Int → Int → Int → Int → Int → Int → (List (Int × Int × Int)) → Option α) (r0 : Bool → Option α) : Option α :=
  G29 k one2 three2 equal1 four1 n_1 five1 0 t12 t13 t14 t15 t16 t17 normal6 normal7 normal8 x6 x7 x8 of12 of13 of14 of15 of16 of17 v86 v87 v88 v89 v90 v91 w12 w13 w14 w15 w16 w17 list1 due1
    (fun one4 three4 equal3 four3 n_3 five3 _ t24 t25 t26 t27 t28 t29 normal12 normal13 normal14 x12 x13 x14 of24 of25 of26 of27 of28 of29 v98 v99 v100 v101 v102 v103 w24 w25 w26 w27 w28 w29 list3 _ =>
      κ33 one4 three4 equal3 four3 n_3 five3 t24 t25 t26 t27 t28 t29 normal12 normal13 normal14 x12 x13 x14 of24 of25 of26 of27 of28 of29 v98 v99 v100 v101 v102 v103 w24 w25 w26 w27 w28 w29 list3)
    r0
def laws_FnShapes_b7 {α : Type}  (k : Nat) (one5 : Int) (three5 : Int) (equal4 : Bool) (four4 : Int) (n_4 : Int) (five4 : Int) (t30 : Int) (t31 : Int) (t32 : Int) (t33 : Int) (t34 : Int) (t35 : Int) (normal15 : Int) (normal16 : Int) (normal17 : Int) (x15 : Int) (x16 : Int) (x17 : Int) (of30 : Int) (of31 : Int) (of32 : Int) (of33 : Int) (of34 : Int) (of35 : Int) (v104 : Int) (v105 : Int) (v106 : Int) (v107 : Int) (v108 : Int) (v109 : Int) (w30 : Int) (w31 : Int) (w32 : Int) (w33 : Int) (w34 : Int) (w35 : Int) (list4 : List (Int × Int × Int)) (κ35 : Option α) (κ36 : Int → Int → Bool → Int → Int → Int → Int → Int → Int → Int → Int → Int → Int → Int → Int → Int → Int → Int → Int → Int → Int → Int → Int → Int → Int → Int → Int → Int → Int → Int → Int → Int → Int → Int → Int → (List (Int × Int × Int)) → Option α) (κ41 : Int → Int → Bool → Int → Int → Int → Int → Int → Int → Int → Int → Int → Int → Int → Int → Int → Int → Int → Int → Int → Int → Int → Int → Int → Int → Int → Int → Int → Int → Int → Int → Int → Int → Int → Option α) (r0 : Bool → Option α) : Option α :=
  bif decide (five4 = 0) then
    bif decide ((((List.length list4) : Nat) : Int) = 0) then
      κ35
    else
    bif (true && decide (0 < (((List.length list4) : Nat) : Int))) then
      (list4[0]?).bind fun e_2 =>
      bif (!(decide (e_2.1 = 1) && (decide (e_2.2.1 = 0) && decide (e_2.2.2 = n_4)))) then
        κ35
      else
        κ36 one5 three5 equal4 four4 n_4 t30 t31 t32 t33 t34 t35 normal15 normal16 normal17 x15 x16 x17 of30 of31 of32 of33 of34 of35 v104 v105 v106 v107 v108 v109 w30 w31 w32 w33 w34 w35 list4
    else
      none
  else
    κ41 one5 three5 equal4 four4 t30 t31 t32 t33 t34 t35 normal15 normal16 normal17 x15 x16 x17 of30 of31 of32 of33 of34 of35 v104 v105 v106 v107 v108 v109 w30 w31 w32 w33 w34 w35
def laws_FnShapes_b8 {α : Type}  (k : Nat)  (r0 : Bool → Option α) : Option α :=
  r0 false
def laws_FnShapes_b9 {α : Type}  (k : Nat) (one6 : Int) (three6 : Int) (equal5 : Bool) (four5 : Int) (n_5 : Int) (t36 : Int) (t37 : Int) (t38 : Int) (t39 : Int) (t40 : Int) (t41 : Int) (normal18 : Int) (normal19 : Int) (normal20 : Int) (x18 : Int) (x19 : Int) (x20 : Int) (of36 : Int) (of37 : Int) (of38 : Int) (of39 : Int) (of40 : Int) (of41 : Int) (v110 : Int) (v111 : Int) (v112 : Int) (v113 : Int) (v114 : Int) (v115 : Int) (w36 : Int) (w37 : Int) (w38 : Int) (w39 : Int) (w40 : Int) (w41 : Int) (list5 : List (Int × Int × Int)) (κ41 : Int → Int → Bool → Int → Int → Int → Int → Int → Int → Int → Int → Int → Int → Int → Int → Int → Int → Int → Int → Int → Int → Int → Int → Int → Int → Int → Int → Int → Int → Int → Int → Int → Int → Int → Option α) (r0 : Bool → Option α) : Option α :=
  bif decide (0 < (((List.length list5) : Nat) : Int)) then
    bif (true && decide (0 < (((List.length list5) : Nat) : Int))) then
      (list5[0]?).bind fun e_3 =>
      bif (true && decide (0 < (((List.length list5) : Nat) : Int))) then
        (list5[0]?).bind fun e_4 =>
        bif (!decide ((w64 (e_3.1 * e_4.2.2)) = n_5)) then
          r0 false
        else
        bif decide (1 < (((List.length list5) : Nat) : Int)) then
          bif (true && decide (1 < (((List.length list5) : Nat) : Int))) then
            (list5[1]?).bind fun e_5 =>
            bif (true && decide (1 < (((List.length list5) : Nat) : Int))) then
              (list5[1]?).bind fun e_6 =>
              bif (!decide ((w64 (e_5.1 * e_6.2.2)) = n_5)) then
                r0 false
              else
              bif decide (2 < (((List.length list5) : Nat) : Int)) then
                bif (true && decide (2 < (((List.length list5) : Nat) : Int))) then
                  (list5[2]?).bind fun e_7 =>
                  bif (true && decide (2 < (((List.length list5) : Nat) : Int))) then
                    (list5[2]?).bind fun e_8 =>
                    bif (!decide ((w64 (e_7.1 * e_8.2.2)) = n_5)) then
                      r0 false
                    else
                    bif decide (3 < (((List.length list5) : Nat) : Int)) then
                      κ41 one6 three6 equal5 four5 t36 t37 t38 t39 t40 t41 normal18 normal19 normal20 x18 x19 x20 of36 of37 of38 of39 of40 of41 v110 v111 v112 v113 v114 v115 w36 w37 w38 w39 w40 w41
                    else
                      κ41 one6 three6 equal5 four5 t36 t37 t38 t39 t40 t41 normal18 normal19 normal20 x18 x19 x20 of36 of37 of38 of39 of40 of41 v110 v111 v112 v113 v114 v115 w36 w37 w38 w39 w40 w41
                  else
                    none
                else
                  none
              else
                κ41 one6 three6 equal5 four5 t36 t37 t38 t39 t40 t41 normal18 normal19 normal20 x18 x19 x20 of36 of37 of38 of39 of40 of41 v110 v111 v112 v113 v114 v115 w36 w37 w38 w39 w40 w41
            else
              none
          else
            none
        else
          κ41 one6 three6 equal5 four5 t36 t37 t38 t39 t40 t41 normal18 normal19 normal20 x18 x19 x20 of36 of37 of38 of39 of40 of41 v110 v111 v112 v113 v114 v115 w36 w37 w38 w39 w40 w41
      else
        none
    else
      none
  else
    κ41 one6 three6 equal5 four5 t36 t37 t38 t39 t40 t41 normal18 normal19 normal20 x18 x19 x20 of36 of37 of38 of39 of40 of41 v110 v111 v112 v113 v114 v115 w36 w37 w38 w39 w40 w41
def laws_FnShapes_b10 {α : Type} (F16 : Nat → Int → Int → Int → Int → Int → Int → (Int → Int → Option α) → Option α) (F17 : Nat → Int → Int → Int → Int → Int → Int → (Int → Int → Option α) → Option α) (k : Nat) (one7 : Int) (three7 : Int) (equal6 : Bool) (four6 : Int) (t42 : Int) (t43 : Int) (t44 : Int) (t45 : Int) (t46 : Int) (t47 : Int) (normal21 : Int) (normal22 : Int) (normal23 : Int) (x21 : Int) (x22 : Int) (x23 : Int) (of42 : Int) (of43 : Int) (of44 : Int) (of45 : Int) (of46 : Int) (of47 : Int) (v116 : Int) (v117 : Int) (v118 : Int) (v119 : Int) (v120 : Int) (v121 : Int) (w42 : Int) (w43 : Int) (w44 : Int) (w45 : Int) (w46 : Int) (w47 : Int) (κ47 : Option α) (κ48 : Int → Int → Int → Int → Int → Int → Int → Int → Int → Int → Int → Int → Int → Int → Int → Int → Int → Int → Int → Int → Option α) (r0 : Bool → Option α) : Option α :=
  bif decide (four6 = 0) then
    bif equal6 then
      F16 k v116 v117 v118 v119 v120 v121 fun v122 v123 =>
      F16 k w42 w43 w44 w45 w46 w47 fun v124 v125 =>
      F17 k v116 v117 v118 v119 v120 v121 fun v126 v127 =>
      F17 k w42 w43 w44 w45 w46 w47 fun v128 v129 =>
      bif (!decide (v123 = 0)) then
        κ47
      else
      bif (!decide (v125 = 0)) then
        κ47
      else
      bif (!decide (v122 = v124)) then
        κ47
      else
      bif (!decide (v127 = 0)) then
        κ47
      else
      bif (!decide (v129 = 0)) then
        κ47
      else
      bif (!decide (v126 = v128)) then
        κ47
      else
        κ48 one7 three7 t42 t43 t44 t45 t46 t47 normal21 normal22 normal23 x21 x22 x23 of42 of43 of44 of45 of46 of47
    else
      κ48 one7 three7 t42 t43 t44 t45 t46 t47 normal21 normal22 normal23 x21 x22 x23 of42 of43 of44 of45 of46 of47
  else
    κ48 one7 three7 t42 t43 t44 t45 t46 t47 normal21 normal22 normal23 x21 x22 x23 of42 of43 of44 of45 of46 of47
def laws_FnShapes_b11 {α : Type}  (k : Nat)  (r0 : Bool → Option α) : Option α :=
  r0 false
def laws_FnShapes_b12 {α : Type} (F5 : Nat → Int → Int → Int → Int → Int → Int → Int → Int → (Int → Int → Int → Int → Option α) → Option α) (k : Nat) (one8 : Int) (three8 : Int) (t48 : Int) (t49 : Int) (t50 : Int) (t51 : Int) (t52 : Int) (t53 : Int) (normal24 : Int) (normal25 : Int) (normal26 : Int) (x24 : Int) (x25 : Int) (x26 : Int) (of48 : Int) (of49 : Int) (of50 : Int) (of51 : Int) (of52 : Int) (of53 : Int) (κ51 : Option α) (κ55 : Option α) (κ56 : Int → Int → Int → Int → Int → Int → Int → Int → Int → Option α) (r0 : Bool → Option α) : Option α :=
  bif decide (three8 = 0) then
    F5 k of48 of49 of50 of51 of52 of53 0 1 fun v130 v131 v132 v133 =>
    bif (!decide (v133 = 0)) then
      κ51
    else
    bif (!(decide (v130 = x24) && (decide (v131 = x25) && decide (v132 = x26)))) then
      κ51
    else
    bif (!decide (one8 = 0)) then
      r0 (decide (normal24 = 0) && (decide (normal25 = 0) && decide (normal26 = 0)))
    else
    bif decide (1000 < normal24) then
      κ55
    else
    bif decide (1000 < normal26) then
      κ55
    else
      κ56 t48 t49 t50 t51 t52 t53 normal24 normal25 normal26
  else
  bif (!decide (one8 = 0)) then
    r0 (decide (normal24 = 0) && (decide (normal25 = 0) && decide (normal26 = 0)))
  else
  bif decide (1000 < normal24) then
    κ55
  else
  bif decide (1000 < normal26) then
    κ55
  else
    κ56 t48 t49 t50 t51 t52 t53 normal24 normal25 normal26
def laws_FnShapes_b13 {α : Type}  (k : Nat)  (r0 : Bool → Option α) : Option α :=
  r0 false
def laws_FnShapes_b14 {α : Type}  (k : Nat)  (r0 : Bool → Option α) : Option α :=
  r0 true
def laws_FnShapes_b15 {α : Type} (F2 : Nat → Int → Int → Int → Int → Int → Int → (Int → Int → Int → Int → Option α) → Option α) (F8 : Nat → Int → Int → Int → (Int → Int → Int → Int → Int → Int → Int → Option α) → Option α) (F11 : Nat → Int → Int → Int → Int → Int → Int → Int → Int → Int → Int → Int → Int → (Bool → Int → Option α) → Option α) (k : Nat) (t54 : Int) (t55 : Int) (t56 : Int) (t57 : Int) (t58 : Int) (t59 : Int) (normal27 : Int) (normal28 : Int) (normal29 : Int) (r0 : Bool → Option α) : Option α :=
  F8 k normal27 normal28 normal29 fun v134 v135 v136 v137 v138 v139 v140 =>
  F2 k v134 v135 v136 v137 v138 v139 fun v141 v142 v143 v144 =>
  F11 k t54 t55 t56 t57 t58 t59 v134 v135 v136 v137 v138 v139 fun v145 v146 =>
  bif decide (v140 = 0) then
    bif decide (v144 = 0) then
      bif (decide (v141 = normal27) && (decide (v142 = normal28) && decide (v143 = normal29))) then
        bif decide (v146 = 0) then
          r0 v145
        else
          r0 false
      else
        r0 false
    else
      r0 false
  else
    r0 false
noncomputable def laws_FnShapes_B15 {α : Type} (k : Nat) (t54 : Int) (t55 : Int) (t56 : Int) (t57 : Int) (t58 : Int) (t59 : Int) (normal27 : Int) (normal28 : Int) (normal29 : Int) (r0 : Bool → Option α) : Option α :=
  laws_FnShapes_b15 impl_NormalShape impl_TriangleOf impl_AreEqualTriangles k t54 t55 t56 t57 t58 t59 normal27 normal28 normal29 r0
noncomputable def laws_FnShapes_B14 {α : Type} (k : Nat)  (r0 : Bool → Option α) : Option α :=
  laws_FnShapes_b14 k r0
noncomputable def laws_FnShapes_B13 {α : Type} (k : Nat)  (r0 : Bool → Option α) : Option α :=
  laws_FnShapes_b13 k r0
noncomputable def laws_FnShapes_B12 {α : Type} (k : Nat) (one8 : Int) (three8 : Int) (t48 : Int) (t49 : Int) (t50 : Int) (t51 : Int) (t52 : Int) (t53 : Int) (normal24 : Int) (normal25 : Int) (normal26 : Int) (x24 : Int) (x25 : Int) (x26 : Int) (of48 : Int) (of49 : Int) (of50 : Int) (of51 : Int) (of52 : Int) (of53 : Int) (r0 : Bool → Option α) : Option α :=
  laws_FnShapes_b12 impl_ShapeOf k one8 three8 t48 t49 t50 t51 t52 t53 normal24 normal25 normal26 x24 x25 x26 of48 of49 of50 of51 of52 of53 (laws_FnShapes_B13 k r0) (laws_FnShapes_B14 k r0) (fun t54 t55 t56 t57 t58 t59 normal27 normal28 normal29 => laws_FnShapes_B15 k t54 t55 t56 t57 t58 t59 normal27 normal28 normal29 r0) r0
noncomputable def laws_FnShapes_B11 {α : Type} (k : Nat)  (r0 : Bool → Option α) : Option α :=
  laws_FnShapes_b11 k r0
noncomputable def laws_FnShapes_B10 {α : Type} (k : Nat) (one7 : Int) (three7 : Int) (equal6 : Bool) (four6 : Int) (t42 : Int) (t43 : Int) (t44 : Int) (t45 : Int) (t46 : Int) (t47 : Int) (normal21 : Int) (normal22 : Int) (normal23 : Int) (x21 : Int) (x22 : Int) (x23 : Int) (of42 : Int) (of43 : Int) (of44 : Int) (of45 : Int) (of46 : Int) (of47 : Int) (v116 : Int) (v117 : Int) (v118 : Int) (v119 : Int) (v120 : Int) (v121 : Int) (w42 : Int) (w43 : Int) (w44 : Int) (w45 : Int) (w46 : Int) (w47 : Int) (r0 : Bool → Option α) : Option α :=
  laws_FnShapes_b10 impl_AreaOfTriangle impl_BoundaryOf k one7 three7 equal6 four6 t42 t43 t44 t45 t46 t47 normal21 normal22 normal23 x21 x22 x23 of42 of43 of44 of45 of46 of47 v116 v117 v118 v119 v120 v121 w42 w43 w44 w45 w46 w47 (laws_FnShapes_B11 k r0) (fun one8 three8 t48 t49 t50 t51 t52 t53 normal24 normal25 normal26 x24 x25 x26 of48 of49 of50 of51 of52 of53 => laws_FnShapes_B12 k one8 three8 t48 t49 t50 t51 t52 t53 normal24 normal25 normal26 x24 x25 x26 of48 of49 of50 of51 of52 of53 r0) r0
noncomputable def laws_FnShapes_B9 {α : Type} (k : Nat) (one6 : Int) (three6 : Int) (equal5 : Bool) (four5 : Int) (n_5 : Int) (t36 : Int) (t37 : Int) (t38 : Int) (t39 : Int) (t40 : Int) (t41 : Int) (normal18 : Int) (normal19 : Int) (normal20 : Int) (x18 : Int) (x19 : Int) (x20 : Int) (of36 : Int) (of37 : Int) (of38 : Int) (of39 : Int) (of40 : Int) (of41 : Int) (v110 : Int) (v111 : Int) (v112 : Int) (v113 : Int) (v114 : Int) (v115 : Int) (w36 : Int) (w37 : Int) (w38 : Int) (w39 : Int) (w40 : Int) (w41 : Int) (list5 : List (Int × Int × Int)) (r0 : Bool → Option α) : Option α :=
  laws_FnShapes_b9 k one6 three6 equal5 four5 n_5 t36 t37 t38 t39 t40 t41 normal18 normal19 normal20 x18 x19 x20 of36 of37 of38 of39 of40 of41 v110 v111 v112 v113 v114 v115 w36 w37 w38 w39 w40 w41 list5 (fun one7 three7 equal6 four6 t42 t43 t44 t45 t46 t47 normal21 normal22 normal23 x21 x22 x23 of42 of43 of44 of45 of46 of47 v116 v117 v118 v119 v120 v121 w42 w43 w44 w45 w46 w47 => laws_FnShapes_B10 k one7 three7 equal6 four6 t42 t43 t44 t45 t46 t47 normal21 normal22 normal23 x21 x22 x23 of42 of43 of44 of45 of46 of47 v116 v117 v118 v119 v120 v121 w42 w43 w44 w45 w46 w47 r0) r0
noncomputable def laws_FnShapes_B8 {α : Type} (k : Nat)  (r0 : Bool → Option α) : Option α :=
  laws_FnShapes_b8 k r0
noncomputable def laws_FnShapes_B7 {α : Type} (k : Nat) (one5 : Int) (three5 : Int) (equal4 : Bool) (four4 : Int) (n_4 : Int) (five4 : Int) (t30 : Int) (t31 : Int) (t32 : Int) (t33 : Int) (t34 : Int) (t35 : Int) (normal15 : Int) (normal16 : Int) (normal17 : Int) (x15 : Int) (x16 : Int) (x17 : Int) (of30 : Int) (of31 : Int) (of32 : Int) (of33 : Int) (of34 : Int) (of35 : Int) (v104 : Int) (v105 : Int) (v106 : Int) (v107 : Int) (v108 : Int) (v109 : Int) (w30 : Int) (w31 : Int) (w32 : Int) (w33 : Int) (w34 : Int) (w35 : Int) (list4 : List (Int × Int × Int)) (r0 : Bool → Option α) : Option α :=
  laws_FnShapes_b7 k one5 three5 equal4 four4 n_4 five4 t30 t31 t32 t33 t34 t35 normal15 normal16 normal17 x15 x16 x17 of30 of31 of32 of33 of34 of35 v104 v105 v106 v107 v108 v109 w30 w31 w32 w33 w34 w35 list4 (laws_FnShapes_B8 k r0) (fun one6 three6 equal5 four5 n_5 t36 t37 t38 t39 t40 t41 normal18 normal19 normal20 x18 x19 x20 of36 of37 of38 of39 of40 of41 v110 v111 v112 v113 v114 v115 w36 w37 w38 w39 w40 w41 list5 => laws_FnShapes_B9 k one6 three6 equal5 four5 n_5 t36 t37 t38 t39 t40 t41 normal18 normal19 normal20 x18 x19 x20 of36 of37 of38 of39 of40 of41 v110 v111 v112 v113 v114 v115 w36 w37 w38 w39 w40 w41 list5 r0) (fun one7 three7 equal6 four6 t42 t43 t44 t45 t46 t47 normal21 normal22 normal23 x21 x22 x23 of42 of43 of44 of45 of46 of47 v116 v117 v118 v119 v120 v121 w42 w43 w44 w45 w46 w47 => laws_FnShapes_B10 k one7 three7 equal6 four6 t42 t43 t44 t45 t46 t47 normal21 normal22 normal23 x21 x22 x23 of42 of43 of44 of45 of46 of47 v116 v117 v118 v119 v120 v121 w42 w43 w44 w45 w46 w47 r0) r0
noncomputable def laws_FnShapes_B6 {α : Type} (k : Nat) (one2 : Int) (three2 : Int) (equal1 : Bool) (four1 : Int) (n_1 : Int) (five1 : Int) (t12 : Int) (t13 : Int) (t14 : Int) (t15 : Int) (t16 : Int) (t17 : Int) (normal6 : Int) (normal7 : Int) (normal8 : Int) (x6 : Int) (x7 : Int) (x8 : Int) (of12 : Int) (of13 : Int) (of14 : Int) (of15 : Int) (of16 : Int) (of17 : Int) (v86 : Int) (v87 : Int) (v88 : Int) (v89 : Int) (v90 : Int) (v91 : Int) (w12 : Int) (w13 : Int) (w14 : Int) (w15 : Int) (w16 : Int) (w17 : Int) (list1 : List (Int × Int × Int)) (due1 : List (Int × Int × Int)) (r0 : Bool → Option α) : Option α :=
  laws_FnShapes_b6 laws_FnShapes_l29 k one2 three2 equal1 four1 n_1 five1 t12 t13 t14 t15 t16 t17 normal6 normal7 normal8 x6 x7 x8 of12 of13 of14 of15 of16 of17 v86 v87 v88 v89 v90 v91 w12 w13 w14 w15 w16 w17 list1 due1 (fun one5 three5 equal4 four4 n_4 five4 t30 t31 t32 t33 t34 t35 normal15 normal16 normal17 x15 x16 x17 of30 of31 of32 of33 of34 of35 v104 v105 v106 v107 v108 v109 w30 w31 w32 w33 w34 w35 list4 => laws_FnShapes_B7 k one5 three5 equal4 four4 n_4 five4 t30 t31 t32 t33 t34 t35 normal15 normal16 normal17 x15 x16 x17 of30 of31 of32 of33 of34 of35 v104 v105 v106 v107 v108 v109 w30 w31 w32 w33 w34 w35 list4 r0) r0
noncomputable def laws_FnShapes_B5 {α : Type} (k : Nat)  (r0 : Bool → Option α) : Option α :=
  laws_FnShapes_b5 k r0
noncomputable def laws_FnShapes_B4 {α : Type} (k : Nat) (one1 : Int) (three1 : Int) (equal : Bool) (four : Int) (n_ : Int) (five : Int) (want : Int) (t6 : Int) (t7 : Int) (t8 : Int) (t9 : Int) (t10 : Int) (t11 : Int) (normal3 : Int) (normal4 : Int) (normal5 : Int) (x3 : Int) (x4 : Int) (x5 : Int) (of6 : Int) (of7 : Int) (of8 : Int) (of9 : Int) (of10 : Int) (of11 : Int) (v80 : Int) (v81 : Int) (v82 : Int) (v83 : Int) (v84 : Int) (v85 : Int) (w6 : Int) (w7 : Int) (w8 : Int) (w9 : Int) (w10 : Int) (w11 : Int) (list : List (Int × Int × Int)) (due : List (Int × Int × Int)) (r0 : Bool → Option α) : Option α :=
  laws_FnShapes_b4 k one1 three1 equal four n_ five want t6 t7 t8 t9 t10 t11 normal3 normal4 normal5 x3 x4 x5 of6 of7 of8 of9 of10 of11 v80 v81 v82 v83 v84 v85 w6 w7 w8 w9 w10 w11 list due (laws_FnShapes_B5 k r0) (fun one2 three2 equal1 four1 n_1 five1 t12 t13 t14 t15 t16 t17 normal6 normal7 normal8 x6 x7 x8 of12 of13 of14 of15 of16 of17 v86 v87 v88 v89 v90 v91 w12 w13 w14 w15 w16 w17 list1 due1 => laws_FnShapes_B6 k one2 three2 equal1 four1 n_1 five1 t12 t13 t14 t15 t16 t17 normal6 normal7 normal8 x6 x7 x8 of12 of13 of14 of15 of16 of17 v86 v87 v88 v89 v90 v91 w12 w13 w14 w15 w16 w17 list1 due1 r0) r0
noncomputable def laws_FnShapes_B3 {α : Type} (k : Nat)  (r0 : Bool → Option α) : Option α :=
  laws_FnShapes_b3 k r0
noncomputable def laws_FnShapes_B2 {α : Type} (k : Nat) (one : Int) (three : Int) (code1 : List Int) (t : Int) (t1 : Int) (t2 : Int) (t3 : Int) (t4 : Int) (t5 : Int) (normal : Int) (normal1 : Int) (normal2 : Int) (x : Int) (x1 : Int) (x2 : Int) (of : Int) (of1 : Int) (of2 : Int) (of3 : Int) (of4 : Int) (of5 : Int) (v60 : Int) (v61 : Int) (v62 : Int) (v63 : Int) (v64 : Int) (v65 : Int) (w : Int) (w1 : Int) (w2 : Int) (w3 : Int) (w4 : Int) (w5 : Int) (r0 : Bool → Option α) : Option α :=
  laws_FnShapes_b2 impl_AreEqualTriangles spec_AreEqualTriangles spec_DrawTrianglesOfArea impl_TrianglesOfArea spec_TrianglesOfArea k one three code1 t t1 t2 t3 t4 t5 normal normal1 normal2 x x1 x2 of of1 of2 of3 of4 of5 v60 v61 v62 v63 v64 v65 w w1 w2 w3 w4 w5 (laws_FnShapes_B3 k r0) (fun one1 three1 equal four n_ five want t6 t7 t8 t9 t10 t11 normal3 normal4 normal5 x3 x4 x5 of6 of7 of8 of9 of10 of11 v80 v81 v82 v83 v84 v85 w6 w7 w8 w9 w10 w11 list due => laws_FnShapes_B4 k one1 three1 equal four n_ five want t6 t7 t8 t9 t10 t11 normal3 normal4 normal5 x3 x4 x5 of6 of7 of8 of9 of10 of11 v80 v81 v82 v83 v84 v85 w6 w7 w8 w9 w10 w11 list due r0) r0
noncomputable def laws_FnShapes_B1 {α : Type} (k : Nat)  (r0 : Bool → Option α) : Option α :=
  laws_FnShapes_b1 k r0
noncomputable def laws_FnShapes_B0 {α : Type} (k : Nat) (code : List Int) (r0 : Bool → Option α) : Option α :=
  laws_FnShapes_b0 laws_big spec_DrawNormalShape impl_NormalShape spec_NormalShape spec_DrawShapeOf impl_ShapeOf spec_ShapeOf spec_DrawTriangleOf impl_TriangleOf spec_TriangleOf spec_DrawAreEqualTriangles k code (laws_FnShapes_B1 k r0) (fun one three code1 t t1 t2 t3 t4 t5 normal normal1 normal2 x x1 x2 of of1 of2 of3 of4 of5 v60 v61 v62 v63 v64 v65 w w1 w2 w3 w4 w5 => laws_FnShapes_B2 k one three code1 t t1 t2 t3 t4 t5 normal normal1 normal2 x x1 x2 of of1 of2 of3 of4 of5 v60 v61 v62 v63 v64 v65 w w1 w2 w3 w4 w5 r0) r0
noncomputable def laws_FnShapes {α : Type} (k : Nat) (code : List Int) (r0 : Bool → Option α) : Option α := laws_FnShapes_B0 k code r0

end Go.Sh
