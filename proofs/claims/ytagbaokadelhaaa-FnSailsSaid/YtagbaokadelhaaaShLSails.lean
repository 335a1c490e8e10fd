/- The program's functions, read without memory: printed by a program of ours. -/
import Derived.Test.YtagbaokadelhaaaMaB
namespace Go.Sh
open Go Go.Ev

/-- loop.example/g01297/laws.big -/
def laws_big {α : Type} (k : Nat) (code : List Int) (r0 : Bool → Option α) : Option α :=
  r0 (decide (4096 < (((List.length code) : Nat) : Int)))

def spec_l01From_l3 {α : Type} : Nat → Int → List Int → Int → Int → (Int → List Int → Int → Int → Option α) → (Int → Int → Option α) → Option α
  | 0, _, _, _, _, _, _ => none
  | k + 1, i, code1, s, s1, b0, r0 =>
    bif decide (i < (((List.length code1) : Nat) : Int)) then
      bif decide (i < 4096) then
        bif (decide (0 ≤ i) && decide (i < (((List.length code1) : Nat) : Int))) then
          (code1[i.toNat]?).bind fun e_ =>
          spec_l01From_l3 k (w64 (i + 1)) code1 s (IntKind.wrap .u64 ((IntKind.wrap .u64 ((IntKind.wrap .u64 (s1 * 1099511628211)) + (IntKind.wrap .u64 e_))) + 107)) b0 r0
        else
          none
      else
        b0 i code1 s s1
    else
      b0 i code1 s s1

/-- loop.example/g01297/spec.l01From -/
def spec_l01From {α : Type} (k : Nat) (code : List Int) (r0 : Int → Int → Option α) : Option α :=
  spec_l01From_l3 k 0 code 0 (IntKind.wrap .u64 (12971 + (IntKind.wrap .u64 (((List.length code) : Nat) : Int))))
    (fun _ _ s2 s3 =>
      r0 s2 s3)
    r0

/-- loop.example/g01297/spec.l01Next -/
def spec_l01Next {α : Type} (k : Nat) (s : List Int) (s1 : Int) (s2 : Int) (n_ : Int) (r0 : Int → Int → Int → Option α) : Option α :=
  bif decide (n_ < 1) then
    r0 0 s1 s2
  else
  bif decide (s1 < (((List.length s) : Nat) : Int)) then
    bif (decide (0 ≤ s1) && decide (s1 < (((List.length s) : Nat) : Int))) then
      (s[s1.toNat]?).bind fun e_ =>
      bif decide (n_ = 0) then
        none
      else
        r0 (Int.tmod (w64 ((w64 (IntKind.wrap .u64 ((BitVec.ofInt 64 (Int.fdiv (IntKind.wrap .u64 ((IntKind.wrap .u64 (s2 * 6364136223846793005)) + 1442695040888963407)) (2 ^ 31)) &&& BitVec.ofInt 64 1073741823).toNat))) + (w64 e_))) n_) (w64 (s1 + 1)) (IntKind.wrap .u64 ((IntKind.wrap .u64 (s2 * 6364136223846793005)) + 1442695040888963407))
    else
      none
  else
  bif decide (n_ = 0) then
    none
  else
    r0 (Int.tmod (w64 (IntKind.wrap .u64 ((BitVec.ofInt 64 (Int.fdiv (IntKind.wrap .u64 ((IntKind.wrap .u64 (s2 * 6364136223846793005)) + 1442695040888963407)) (2 ^ 31)) &&& BitVec.ofInt 64 1073741823).toNat))) n_) s1 (IntKind.wrap .u64 ((IntKind.wrap .u64 (s2 * 6364136223846793005)) + 1442695040888963407))

/-- loop.example/g01297/spec.l01Pick -/
def spec_l01Pick {α : Type} (k : Nat) (s : List Int) (s1 : Int) (s2 : Int) (list : List Int) (r0 : Int → Int → Int → Option α) : Option α :=
  spec_l01Next k s s1 s2 (((List.length list) : Nat) : Int) fun v v1 v2 =>
  bif (decide (0 ≤ v) && decide (v < (((List.length list) : Nat) : Int))) then
    (list[v.toNat]?).bind fun e_ =>
    r0 e_ v1 v2
  else
    none

/-- loop.example/g01297/spec.l01DrawPoint -/
def spec_l01DrawPoint {α : Type} (k : Nat) (s : List Int) (s1 : Int) (s2 : Int) (most : Int) (r0 : Int → Int → Int → Int → Option α) : Option α :=
  spec_l01Next k s s1 s2 (w64 ((w64 (2 * most)) + 1)) fun v v1 v2 =>
  spec_l01Next k s v1 v2 (w64 ((w64 (2 * most)) + 1)) fun v3 v4 v5 =>
  r0 (w64 (v - most)) (w64 (v3 - most)) v4 v5

def spec_l01Gcd_l1 {α : Type} : Nat → Int → Int → (Int → Int → Option α) → (Int → Option α) → Option α
  | 0, _, _, _, _ => none
  | k + 1, a1, b_1, b0, r0 =>
    bif (!decide (b_1 = 0)) then
      bif decide (b_1 = 0) then
        none
      else
        spec_l01Gcd_l1 k b_1 (Int.tmod a1 b_1) b0 r0
    else
      b0 a1 b_1

/-- loop.example/g01297/spec.l01Gcd -/
def spec_l01Gcd {α : Type} (k : Nat) (a : Int) (b_ : Int) (r0 : Int → Option α) : Option α :=
  spec_l01Gcd_l1 k a b_
    (fun a2 _ =>
      r0 (max a2 (w64 (0 - a2))))
    r0

/-- loop.example/g01297/spec.l01Part -/
def spec_l01Part {α : Type} (k : Nat) (a : Int) (a1 : Int) (r0 : Int → Int → Option α) : Option α :=
  spec_l01Gcd k a a1 fun v =>
  bif decide (v = 0) then
    none
  else
  bif decide (v = 0) then
    none
  else
    r0 (w64 (Int.tdiv a v)) (w64 (Int.tdiv a1 v))

/-- loop.example/g01297/spec.l01DrawPrimitive -/
def spec_l01DrawPrimitive {α : Type} (k : Nat) (s : List Int) (s1 : Int) (s2 : Int) (most : Int) (r0 : Int → Int → Int → Int → Option α) : Option α :=
  spec_l01DrawPoint k s s1 s2 most fun v v1 v2 v3 =>
  bif (decide (v = 0) && decide (v1 = 0)) then
    r0 1 0 v2 v3
  else
    spec_l01Part k v v1 fun v4 v5 =>
    r0 v4 v5 v2 v3

/-- loop.example/g01297/spec.l01Det -/
def spec_l01Det {α : Type} (k : Nat) (a : Int) (a1 : Int) (b_ : Int) (b_1 : Int) (r0 : Int → Option α) : Option α :=
  r0 (w64 ((w64 (a * b_1)) - (w64 (a1 * b_))))

/-- loop.example/g01297/spec.l03DrawOf -/
def spec_l03DrawOf {α : Type} (k : Nat) (s : List Int) (s1 : Int) (s2 : Int) (most : Int) (r0 : Int → Int → Int → Int → Int → Int → Option α) : Option α :=
  spec_l01DrawPrimitive k s s1 s2 most fun v v1 v2 v3 =>
  spec_l01DrawPrimitive k s v2 v3 most fun v4 v5 v6 v7 =>
  spec_l01Det k v v1 v4 v5 fun v8 =>
  bif decide (v8 = 0) then
    spec_l01Next k s v6 v7 most fun v9 v10 v11 =>
    r0 1 0 1 (w64 (1 + v9)) v10 v11
  else
  bif decide (v8 < 0) then
    r0 v4 v5 v v1 v6 v7
  else
    r0 v v1 v4 v5 v6 v7

/-- loop.example/g01297/spec.l01Plus -/
def spec_l01Plus {α : Type} (k : Nat) (a : Int) (a1 : Int) (b_ : Int) (b_1 : Int) (k_ : Int) (r0 : Int → Int → Option α) : Option α :=
  r0 (w64 (a + (w64 (k_ * b_)))) (w64 (a1 + (w64 (k_ * b_1))))

/-- loop.example/g01297/spec.l01Bad -/
def spec_l01Bad {α : Type} (k : Nat) (s : List Int) (s1 : Int) (s2 : Int) (a : Int) (a1 : Int) (r0 : Int → Int → Int → Int → Option α) : Option α :=
  spec_l01Next k s s1 s2 40 fun v v1 v2 =>
  bif decide (v = 0) then
    spec_l01Next k s v1 v2 2 fun v3 v4 v5 =>
    spec_l01Pick k s v4 v5 [1000001, (-1000001), 1099511627776] fun v6 v7 v8 =>
    bif (decide (0 ≤ v3) && decide (v3 < 2)) then
      ([a, a1][v3.toNat]?).bind fun _ =>
      ((List.set [a, a1] v3.toNat v6)[0]?).bind fun e_ =>
      ((List.set [a, a1] v3.toNat v6)[1]?).bind fun e_1 =>
      r0 e_ e_1 v7 v8
    else
      none
  else
    r0 a a1 v1 v2

/-- loop.example/g01297/spec.l03Draw -/
def spec_l03Draw {α : Type} (k : Nat) (s : List Int) (s1 : Int) (s2 : Int) (r0 : Int → Int → Int → Int → Int → Int → Option α) : Option α :=
  spec_l01Pick k s s1 s2 [3, 6, 12, 12, 100, 1000, 1000000] fun v v1 v2 =>
  spec_l03DrawOf k s v1 v2 v fun v3 v4 v5 v6 v7 v8 =>
  spec_l01Next k s v7 v8 30 fun v9 v10 v11 =>
  bif decide (v9 = 0) then
    r0 v5 v6 v3 v4 v10 v11
  else
  bif decide (v9 = 1) then
    spec_l01Plus k v3 v4 v3 v4 1 fun v12 v13 =>
    spec_l01Bad k s v10 v11 v12 v13 fun v14 v15 v16 v17 =>
    r0 v14 v15 v5 v6 v16 v17
  else
    spec_l01Bad k s v10 v11 v3 v4 fun v18 v19 v20 v21 =>
    r0 v18 v19 v5 v6 v20 v21

/-- loop.example/g01297/spec.DrawSailPoints -/
def spec_DrawSailPoints {α : Type} (k : Nat) (code : List Int) (r0 : Int → Int → Int → Int → Option α) : Option α :=
  spec_l01From k code fun v v1 =>
  spec_l03Draw k code v v1 fun v2 v3 v4 v5 _ _ =>
  r0 v2 v3 v4 v5

/-- loop.example/g01297/impl.in -/
def impl_in {α : Type} (k : Nat) (n_ : Int) (low : Int) (high : Int) (r0 : Bool → Option α) : Option α :=
  bif decide (low ≤ n_) then
    r0 (decide (n_ ≤ high))
  else
    r0 false

/-- loop.example/g01297/impl.isCoord -/
def impl_isCoord {α : Type} (k : Nat) (n_ : Int) (r0 : Bool → Option α) : Option α :=
  impl_in k n_ (-1000000) 1000000 fun v =>
  r0 v

/-- loop.example/g01297/impl.IsPoint -/
def impl_IsPoint {α : Type} (k : Nat) (a : Int) (a1 : Int) (r0 : Bool → Option α) : Option α :=
  impl_isCoord k a fun v =>
  bif v then
    impl_isCoord k a1 fun v1 =>
    r0 v1
  else
    r0 false

/-- loop.example/g01297/impl.points$1 -/
def impl_points_1 {α : Type} (k : Nat) (a : Int) (a1 : Int) (r0 : Bool → Option α) : Option α :=
  impl_IsPoint k a a1 fun v =>
  r0 (!v)

def slices_IndexFunc_impl_Point_impl_Point_1F_impl_points_1_l2 {α : Type} : Nat → Int → Int → (List (Int × Int)) → (Int → Int → (List (Int × Int)) → Option α) → (Int → Option α) → Option α
  | 0, _, _, _, _, _ => none
  | k + 1, x, x1, s1, b0, r0 =>
    bif decide (x1 < x) then
      bif (decide (0 ≤ x1) && decide (x1 < (((List.length s1) : Nat) : Int))) then
        (s1[x1.toNat]?).bind fun e_ =>
        impl_points_1 k e_.1 e_.2 fun v =>
        bif v then
          r0 x1
        else
          slices_IndexFunc_impl_Point_impl_Point_1F_impl_points_1_l2 k x (w64 (x1 + 1)) s1 b0 r0
      else
        none
    else
      b0 x x1 s1

/-- slices.IndexFunc[[]loop.example/g01297/impl.Point,loop.example/g01297/impl.Point] -/
def slices_IndexFunc_impl_Point_impl_Point_1F_impl_points_1 {α : Type} (k : Nat) (s : List (Int × Int)) (r0 : Int → Option α) : Option α :=
  slices_IndexFunc_impl_Point_impl_Point_1F_impl_points_1_l2 k (((List.length s) : Nat) : Int) 0 s
    (fun _ _ _ =>
      r0 (-1))
    r0

/-- slices.ContainsFunc[[]loop.example/g01297/impl.Point,loop.example/g01297/impl.Point] -/
def slices_ContainsFunc_impl_Point_impl_Point_1F_impl_points_1 {α : Type} (k : Nat) (s : List (Int × Int)) (r0 : Bool → Option α) : Option α :=
  slices_IndexFunc_impl_Point_impl_Point_1F_impl_points_1 k s fun v =>
  r0 (decide (0 ≤ v))

/-- loop.example/g01297/impl.points -/
def impl_points {α : Type} (k : Nat) (list : List (Int × Int)) (r0 : Bool → Option α) : Option α :=
  slices_ContainsFunc_impl_Point_impl_Point_1F_impl_points_1 k list fun v =>
  r0 (!v)

/-- loop.example/g01297/impl.size -/
def impl_size {α : Type} (k : Nat) (n_ : Int) (r0 : Int → Option α) : Option α :=
  r0 (max n_ (w64 (0 - n_)))

def impl_gcd_l1 {α : Type} : Nat → Int → Int → (Int → Int → Option α) → (Int → Option α) → Option α
  | 0, _, _, _, _ => none
  | k + 1, a1, b_1, b0, r0 =>
    bif (!decide (b_1 = 0)) then
      bif decide (b_1 = 0) then
        none
      else
        impl_gcd_l1 k b_1 (Int.tmod a1 b_1) b0 r0
    else
      b0 a1 b_1

/-- loop.example/g01297/impl.gcd -/
def impl_gcd {α : Type} (k : Nat) (a : Int) (b_ : Int) (r0 : Int → Option α) : Option α :=
  impl_gcd_l1 k a b_
    (fun a2 _ =>
      impl_size k a2 fun v =>
      r0 v)
    r0

/-- (loop.example/g01297/impl.Point).length -/
def impl_Point_length {α : Type} (k : Nat) (a : Int) (a1 : Int) (r0 : Int → Option α) : Option α :=
  impl_gcd k a a1 fun v =>
  r0 v

/-- (loop.example/g01297/impl.Point).isPrimitive -/
def impl_Point_isPrimitive {α : Type} (k : Nat) (a : Int) (a1 : Int) (r0 : Bool → Option α) : Option α :=
  impl_Point_length k a a1 fun v =>
  r0 (decide (v = 1))

/-- loop.example/g01297/impl.det -/
def impl_det {α : Type} (k : Nat) (a : Int) (a1 : Int) (b_ : Int) (b_1 : Int) (r0 : Int → Option α) : Option α :=
  r0 (w64 ((w64 (a * b_1)) - (w64 (a1 * b_))))

/-- loop.example/g01297/impl.IsAngle -/
def impl_IsAngle {α : Type} (k : Nat) (a : Int) (a1 : Int) (b_ : Int) (b_1 : Int) (r0 : Bool → Option α) : Option α :=
  impl_points k [(a, a1), (b_, b_1)] fun v =>
  bif v then
    impl_Point_isPrimitive k a a1 fun v1 =>
    bif v1 then
      impl_Point_isPrimitive k b_ b_1 fun v2 =>
      bif v2 then
        impl_det k a a1 b_ b_1 fun v3 =>
        r0 (decide (1 ≤ v3))
      else
        r0 false
    else
      r0 false
  else
    r0 false

/-- loop.example/g01297/impl.floor -/
def impl_floor {α : Type} (k : Nat) (a : Int) (b_ : Int) (r0 : Int → Option α) : Option α :=
  bif decide (b_ = 0) then
    none
  else
  bif decide (b_ = 0) then
    none
  else
  bif (!decide ((Int.tmod a b_) = 0)) then
    bif (!(decide (a < 0) == decide (b_ < 0))) then
      r0 (w64 ((w64 (Int.tdiv a b_)) - 1))
    else
      r0 (w64 (Int.tdiv a b_))
  else
    r0 (w64 (Int.tdiv a b_))

/-- loop.example/g01297/impl.mod -/
def impl_mod {α : Type} (k : Nat) (a : Int) (b_ : Int) (r0 : Int → Option α) : Option α :=
  impl_floor k a b_ fun v =>
  r0 (w64 (a - (w64 (b_ * v))))

def impl_bezout_l2 {α : Type} : Nat → Int → Int → Int → Int → Int → (Int → Int → Int → Int → Int → Option α) → (Int → Option α) → Option α
  | 0, _, _, _, _, _, _, _ => none
  | k + 1, m1, r_, s, x, y, b0, r0 =>
    bif (!decide (s = 0)) then
      bif decide (s = 0) then
        none
      else
        impl_bezout_l2 k m1 s (w64 (r_ - (w64 ((w64 (Int.tdiv r_ s)) * s)))) y (w64 (x - (w64 ((w64 (Int.tdiv r_ s)) * y)))) b0 r0
    else
      b0 m1 r_ s x y

/-- loop.example/g01297/impl.bezout -/
def impl_bezout {α : Type} (k : Nat) (a : Int) (m : Int) (r0 : Int → Option α) : Option α :=
  impl_mod k a m fun v =>
  impl_bezout_l2 k m v m 1 0
    (fun m2 _ _ x1 _ =>
      impl_mod k x1 m2 fun v1 =>
      r0 v1)
    r0

/-- (loop.example/g01297/impl.Point).mate -/
def impl_Point_mate {α : Type} (k : Nat) (a : Int) (a1 : Int) (r0 : Int → Int → Option α) : Option α :=
  bif decide (a = 0) then
    r0 (w64 (0 - a1)) 0
  else
    impl_size k a fun v =>
    impl_bezout k a1 v fun v1 =>
    impl_size k a fun v2 =>
    impl_mod k (w64 (0 - v1)) v2 fun v3 =>
    bif decide (a = 0) then
      none
    else
      r0 v3 (w64 (Int.tdiv (w64 (1 + (w64 (a1 * v3)))) a))

/-- (loop.example/g01297/impl.Point).plus -/
def impl_Point_plus {α : Type} (k : Nat) (a : Int) (a1 : Int) (b_ : Int) (b_1 : Int) (k_ : Int) (r0 : Int → Int → Option α) : Option α :=
  r0 (w64 (a + (w64 (k_ * b_)))) (w64 (a1 + (w64 (k_ * b_1))))

/-- (loop.example/g01297/impl.Point).less -/
def impl_Point_less {α : Type} (k : Nat) (a : Int) (a1 : Int) (b_ : Int) (b_1 : Int) (r0 : Int → Int → Option α) : Option α :=
  impl_Point_plus k a a1 b_ b_1 (-1) fun v v1 =>
  r0 v v1

def impl_sailOf_l5 {α : Type} : Nat → Int → Int → Int → Int → Int → Int → (List (Int × Int)) → List Int → (Int → Option α) → ((List (Int × Int)) → List Int → Int → Option α) → Option α
  | 0, _, _, _, _, _, _, _, _, _, _ => none
  | k + 1, b_2, b_3, now, now1, before, before1, b_4, b_5, r0, r1 =>
    bif decide (((List.length b_4) + 1) ≤ big) then
      bif decide (2000 < (((List.length (b_4 ++ [(now, now1)])) : Nat) : Int)) then
        r0 3
      else
        impl_IsPoint k now now1 fun v7 =>
        bif (!v7) then
          r0 3
        else
        bif (decide (now = b_2) && decide (now1 = b_3)) then
          bif decide (((List.length b_5) + 1) ≤ big) then
            r1 (b_4 ++ [(now, now1)]) (b_5 ++ [0]) 0
          else
            none
        else
          impl_det k before before1 b_2 b_3 fun v8 =>
          impl_det k now now1 b_2 b_3 fun v9 =>
          impl_floor k (w64 (0 - v8)) v9 fun v10 =>
          bif decide (((List.length b_5) + 1) ≤ big) then
            impl_Point_less k 0 0 before before1 fun v11 v12 =>
            impl_Point_plus k v11 v12 now now1 (w64 (0 - v10)) fun v13 v14 =>
            impl_sailOf_l5 k b_2 b_3 v13 v14 now now1 (b_4 ++ [(now, now1)]) (b_5 ++ [(w64 (0 - v10))]) r0 r1
          else
            none
    else
      none

/-- loop.example/g01297/impl.sailOf -/
def impl_sailOf {α : Type} (k : Nat) (a : Int) (a1 : Int) (b_ : Int) (b_1 : Int) (r0 : Int → Option α) (r1 : (List (Int × Int)) → List Int → Int → Option α) : Option α :=
  impl_Point_mate k a a1 fun v v1 =>
  impl_det k v v1 b_ b_1 fun v2 =>
  impl_det k a a1 b_ b_1 fun v3 =>
  impl_floor k v2 v3 fun v4 =>
  impl_Point_plus k v v1 a a1 (w64 (0 - v4)) fun v5 v6 =>
  impl_sailOf_l5 k b_ b_1 v5 v6 a a1 [(a, a1)] [0]
    r0 r1

/-- loop.example/g01297/impl.angleSail -/
def impl_angleSail {α : Type} (k : Nat) (a : Int) (a1 : Int) (b_ : Int) (b_1 : Int) (r0 : Int → Option α) (r1 : (List (Int × Int)) → List Int → Int → Option α) : Option α :=
  impl_IsAngle k a a1 b_ b_1 fun v =>
  bif (!v) then
    r0 1
  else
    impl_sailOf k a a1 b_ b_1
      (fun v1 =>
        r0 v1)
      (fun v2 v3 v4 =>
        r1 v2 v3 v4)

/-- loop.example/g01297/impl.SailPoints -/
def impl_SailPoints {α : Type} (k : Nat) (a : Int) (a1 : Int) (b_ : Int) (b_1 : Int) (r0 : Int → Option α) (r1 : (List (Int × Int)) → Int → Option α) : Option α :=
  impl_angleSail k a a1 b_ b_1
    (fun v =>
      bif (!decide (v = 0)) then
        r0 v
      else
        none)
    (fun v1 _ v3 =>
      bif (!decide (v3 = 0)) then
        r0 v3
      else
        r1 v1 0)

/-- loop.example/g01297/spec.l01In -/
def spec_l01In {α : Type} (k : Nat) (n_ : Int) (low : Int) (high : Int) (r0 : Bool → Option α) : Option α :=
  bif decide (low ≤ n_) then
    r0 (decide (n_ ≤ high))
  else
    r0 false

/-- loop.example/g01297/spec.l01Fits -/
def spec_l01Fits {α : Type} (k : Nat) (x : Int) (r0 : Bool → Option α) : Option α :=
  spec_l01In k x (-1000000) 1000000 fun v =>
  r0 v

/-- loop.example/g01297/spec.l01Is -/
def spec_l01Is {α : Type} (k : Nat) (a : Int) (a1 : Int) (r0 : Bool → Option α) : Option α :=
  spec_l01Fits k a fun v =>
  bif v then
    spec_l01Fits k a1 fun v1 =>
    r0 v1
  else
    r0 false

/-- loop.example/g01297/spec.l03Is -/
def spec_l03Is {α : Type} (k : Nat) (a : Int) (a1 : Int) (b_ : Int) (b_1 : Int) (r0 : Bool → Option α) : Option α :=
  spec_l01Is k a a1 fun v =>
  bif v then
    spec_l01Is k b_ b_1 fun v1 =>
    bif v1 then
      spec_l01Gcd k a a1 fun v2 =>
      bif decide (v2 = 1) then
        spec_l01Gcd k b_ b_1 fun v3 =>
        bif decide (v3 = 1) then
          spec_l01Det k a a1 b_ b_1 fun v4 =>
          r0 (decide (1 ≤ v4))
        else
          r0 false
      else
        r0 false
    else
      r0 false
  else
    r0 false

/-- loop.example/g01297/spec.l01Rest -/
def spec_l01Rest {α : Type} (k : Nat) (n_ : Int) (x : Int) (r0 : Int → Option α) : Option α :=
  bif decide (n_ = 0) then
    none
  else
  bif decide (n_ = 0) then
    none
  else
    r0 (Int.tmod (w64 ((Int.tmod x n_) + n_)) n_)

def spec_l01Base_l5 {α : Type} : Nat → Int → Int → Int → Int → Int → Int → Int → Int → Int → (Int → Int → Int → Int → Int → Int → Int → Int → Int → Option α) → (Int → Int → Option α) → Option α
  | 0, _, _, _, _, _, _, _, _, _, _, _ => none
  | k + 1, n_, x, before, rest, next, a2, a3, x1, x2, b0, r0 =>
    bif (!decide (next = 0)) then
      bif decide (next = 0) then
        none
      else
        spec_l01Base_l5 k n_ before (w64 (x - (w64 ((w64 (Int.tdiv rest next)) * before)))) next (w64 (rest - (w64 ((w64 (Int.tdiv rest next)) * next)))) a2 a3 x1 x2 b0 r0
    else
      b0 n_ x before rest next a2 a3 x1 x2

/-- loop.example/g01297/spec.l01Base -/
def spec_l01Base {α : Type} (k : Nat) (a : Int) (a1 : Int) (r0 : Int → Int → Option α) : Option α :=
  bif decide (a = 0) then
    r0 (w64 (0 - a1)) 0
  else
    spec_l01Rest k (max a (w64 (0 - a))) a1 fun v =>
    spec_l01Base_l5 k (max a (w64 (0 - a))) 1 0 v (max a (w64 (0 - a))) a a1 0 0
      (fun n_1 x3 _ _ _ a4 a5 _ _ =>
        spec_l01Rest k n_1 (w64 (0 - x3)) fun v1 =>
        bif decide (a4 = 0) then
          none
        else
          r0 v1 (w64 (Int.tdiv (w64 (1 + (w64 (a5 * v1)))) a4)))
      r0

/-- loop.example/g01297/spec.l01Floor -/
def spec_l01Floor {α : Type} (k : Nat) (p_ : Int) (q_ : Int) (r0 : Int → Option α) : Option α :=
  bif decide (q_ = 0) then
    none
  else
  bif decide (q_ = 0) then
    none
  else
  bif (!decide ((Int.tmod p_ q_) = 0)) then
    bif (!(decide (p_ < 0) == decide (q_ < 0))) then
      r0 (w64 ((w64 (Int.tdiv p_ q_)) - 1))
    else
      r0 (w64 (Int.tdiv p_ q_))
  else
    r0 (w64 (Int.tdiv p_ q_))

def spec_l03Sail_l5 {α : Type} : Nat → Int → Int → (List (Int × Int)) → List Int → (Bool → Option α) → ((List (Int × Int)) → List Int → Bool → Option α) → Option α
  | 0, _, _, _, _, _, _ => none
  | k + 1, b_2, b_3, points, numbers, r0, r1 =>
    bif decide (2000 < (((List.length points) : Nat) : Int)) then
      r0 false
    else
    bif (decide (0 ≤ (w64 ((((List.length points) : Nat) : Int) - 2))) && decide ((w64 ((((List.length points) : Nat) : Int) - 2)) < (((List.length points) : Nat) : Int))) then
      (points[(w64 ((((List.length points) : Nat) : Int) - 2)).toNat]?).bind fun e_ =>
      bif (decide (0 ≤ (w64 ((((List.length points) : Nat) : Int) - 1))) && decide ((w64 ((((List.length points) : Nat) : Int) - 1)) < (((List.length points) : Nat) : Int))) then
        (points[(w64 ((((List.length points) : Nat) : Int) - 1)).toNat]?).bind fun e_1 =>
        spec_l01Det k e_.1 e_.2 b_2 b_3 fun v7 =>
        spec_l01Det k e_1.1 e_1.2 b_2 b_3 fun v8 =>
        bif decide (v8 = 0) then
          bif decide (((List.length numbers) + 1) ≤ big) then
            r1 points (numbers ++ [2]) true
          else
            none
        else
          spec_l01Floor k (w64 (0 - v7)) v8 fun v9 =>
          bif decide (((List.length numbers) + 1) ≤ big) then
            bif (decide (0 ≤ (w64 ((((List.length points) : Nat) : Int) - 2))) && decide ((w64 ((((List.length points) : Nat) : Int) - 2)) < (((List.length points) : Nat) : Int))) then
              (points[(w64 ((((List.length points) : Nat) : Int) - 2)).toNat]?).bind fun e_2 =>
              bif (decide (0 ≤ (w64 ((((List.length points) : Nat) : Int) - 2))) && decide ((w64 ((((List.length points) : Nat) : Int) - 2)) < (((List.length points) : Nat) : Int))) then
                (points[(w64 ((((List.length points) : Nat) : Int) - 2)).toNat]?).bind fun e_3 =>
                bif (decide (0 ≤ (w64 ((((List.length points) : Nat) : Int) - 1))) && decide ((w64 ((((List.length points) : Nat) : Int) - 1)) < (((List.length points) : Nat) : Int))) then
                  (points[(w64 ((((List.length points) : Nat) : Int) - 1)).toNat]?).bind fun e_4 =>
                  spec_l01Plus k (w64 (0 - e_2.1)) (w64 (0 - e_3.2)) e_4.1 e_4.2 (w64 (0 - v9)) fun v10 v11 =>
                  bif decide (((List.length points) + 1) ≤ big) then
                    spec_l03Sail_l5 k b_2 b_3 (points ++ [(v10, v11)]) (numbers ++ [(w64 (0 - v9))]) r0 r1
                  else
                    none
                else
                  none
              else
                none
            else
              none
          else
            none
      else
        none
    else
      none

/-- loop.example/g01297/spec.l03Sail -/
def spec_l03Sail {α : Type} (k : Nat) (a : Int) (a1 : Int) (b_ : Int) (b_1 : Int) (r0 : Bool → Option α) (r1 : (List (Int × Int)) → List Int → Bool → Option α) : Option α :=
  spec_l01Det k a a1 b_ b_1 fun v =>
  spec_l01Base k a a1 fun v1 v2 =>
  spec_l01Det k v1 v2 b_ b_1 fun v3 =>
  spec_l01Floor k v3 v fun v4 =>
  spec_l01Plus k v1 v2 a a1 (w64 (0 - v4)) fun v5 v6 =>
  spec_l03Sail_l5 k b_ b_1 [(a, a1), (v5, v6)] [2]
    r0 r1

/-- loop.example/g01297/spec.l03Code -/
def spec_l03Code {α : Type} (k : Nat) (a : Int) (a1 : Int) (b_ : Int) (b_1 : Int) (r0 : Int → Option α) (r1 : (List (Int × Int)) → List Int → Int → Option α) : Option α :=
  spec_l03Is k a a1 b_ b_1 fun v =>
  bif (!v) then
    r0 1
  else
    spec_l03Sail k a a1 b_ b_1
      (fun v1 =>
        bif (!v1) then
          r0 3
        else
          r0 0)
      (fun v2 v3 v4 =>
        bif (!v4) then
          r0 3
        else
          r1 v2 v3 0)

/-- loop.example/g01297/spec.SailPoints -/
def spec_SailPoints {α : Type} (k : Nat) (a : Int) (a1 : Int) (b_ : Int) (b_1 : Int) (r0 : Int → Option α) (r1 : (List (Int × Int)) → Int → Option α) : Option α :=
  spec_l03Code k a a1 b_ b_1
    (fun v =>
      r0 v)
    (fun v1 _ v3 =>
      r1 v1 v3)

/-- loop.example/g01297/laws.points5 -/
def laws_points5_0N_1N {α : Type} (k : Nat)  (r0 : Bool → Option α) : Option α :=
  r0 true

/-- loop.example/g01297/spec.IsAngle -/
def spec_IsAngle {α : Type} (k : Nat) (a : Int) (a1 : Int) (b_ : Int) (b_1 : Int) (r0 : Bool → Option α) : Option α :=
  spec_l03Is k a a1 b_ b_1 fun v =>
  r0 v

/-- loop.example/g01297/impl.AreaBelow -/
def impl_AreaBelow {α : Type} (k : Nat) (a : Int) (a1 : Int) (b_ : Int) (b_1 : Int) (r0 : Int → Int → Option α) : Option α :=
  impl_angleSail k a a1 b_ b_1
    (fun v =>
      bif (!decide (v = 0)) then
        r0 0 v
      else
        none)
    (fun v1 _ v3 =>
      bif (!decide (v3 = 0)) then
        r0 0 v3
      else
        r0 (w64 ((((List.length v1) : Nat) : Int) - 1)) 0)

/-- (*loop.example/g01297/impl.sail).vertices -/
def impl_sail_vertices_0Z {α : Type} (k : Nat)   : Option α :=
  none

def impl_sail_vertices_0P_l3 {α : Type} : Nat → Int → Int → List Int → List Int → (List (Int × Int)) → (Int → Int → List Int → List Int → (List (Int × Int)) → Option α) → (List Int → Option α) → Option α
  | 0, _, _, _, _, _, _, _ => none
  | k + 1, x, x1, out, x2, b_, b0, r0 =>
    bif decide (x1 < x) then
      bif (decide (0 ≤ x1) && decide (x1 < (((List.length x2) : Nat) : Int))) then
        (x2[x1.toNat]?).bind fun e_ =>
        bif decide (x1 = 0) then
          bif decide (((List.length out) + 1) ≤ big) then
            impl_sail_vertices_0P_l3 k x (w64 (x1 + 1)) (out ++ [x1]) x2 b_ b0 r0
          else
            none
        else
        bif decide (x1 = (w64 ((((List.length x2) : Nat) : Int) - 1))) then
          bif decide (((List.length out) + 1) ≤ big) then
            impl_sail_vertices_0P_l3 k x (w64 (x1 + 1)) (out ++ [x1]) x2 b_ b0 r0
          else
            none
        else
        bif decide (2 < e_) then
          bif decide (((List.length out) + 1) ≤ big) then
            impl_sail_vertices_0P_l3 k x (w64 (x1 + 1)) (out ++ [x1]) x2 b_ b0 r0
          else
            none
        else
          impl_sail_vertices_0P_l3 k x (w64 (x1 + 1)) out x2 b_ b0 r0
      else
        none
    else
      b0 x x1 out x2 b_

/-- (*loop.example/g01297/impl.sail).vertices -/
def impl_sail_vertices_0P {α : Type} (k : Nat) (s : List (Int × Int)) (s1 : List Int) (r0 : List Int → Option α) : Option α :=
  impl_sail_vertices_0P_l3 k (((List.length s1) : Nat) : Int) 0 [] s1 s
    (fun _ _ out1 _ _ =>
      r0 out1)
    r0

def impl_SailVertices_l6 {α : Type} : Nat → Int → Int → (List (Int × Int)) → List Int → (List (Int × Int)) → List Int → (Int → Int → (List (Int × Int)) → List Int → (List (Int × Int)) → List Int → Option α) → (Int → Option α) → ((List (Int × Int)) → Int → Option α) → Option α
  | 0, _, _, _, _, _, _, _, _, _ => none
  | k + 1, x, x1, out, x2, b_2, b_3, b0, r0, r1 =>
    bif decide (x1 < x) then
      bif (decide (0 ≤ x1) && decide (x1 < (((List.length x2) : Nat) : Int))) then
        (x2[x1.toNat]?).bind fun e_ =>
        bif (decide (0 ≤ e_) && decide (e_ < (((List.length b_2) : Nat) : Int))) then
          (b_2[e_.toNat]?).bind fun e_1 =>
          bif decide (((List.length out) + 1) ≤ big) then
            impl_SailVertices_l6 k x (w64 (x1 + 1)) (out ++ [(e_1.1, e_1.2)]) x2 b_2 b_3 b0 r0 r1
          else
            none
        else
          none
      else
        none
    else
      b0 x x1 out x2 b_2 b_3

/-- loop.example/g01297/impl.SailVertices -/
def impl_SailVertices {α : Type} (k : Nat) (a : Int) (a1 : Int) (b_ : Int) (b_1 : Int) (r0 : Int → Option α) (r1 : (List (Int × Int)) → Int → Option α) : Option α :=
  impl_angleSail k a a1 b_ b_1
    (fun v =>
      bif (!decide (v = 0)) then
        r0 v
      else
        impl_sail_vertices_0Z k)
    (fun v1 v2 v3 =>
      bif (!decide (v3 = 0)) then
        r0 v3
      else
        impl_sail_vertices_0P k v1 v2 fun v4 =>
        impl_SailVertices_l6 k (((List.length v4) : Nat) : Int) 0 [] v4 v1 v2
          (fun _ _ out1 _ _ _ =>
            r1 out1 0)
          r0 r1)

/-- (*loop.example/g01297/impl.sail).sequence -/
def impl_sail_sequence_0Z {α : Type} (k : Nat)   : Option α :=
  impl_sail_vertices_0Z k

def impl_sail_sequence_0P_l3 {α : Type} : Nat → Int → List Int → List Int → (List (Int × Int)) → List Int → (Int → List Int → List Int → (List (Int × Int)) → List Int → Option α) → (List Int → Option α) → Option α
  | 0, _, _, _, _, _, _, _ => none
  | k + 1, k_, out, list, b_, b_1, b0, r0 =>
    bif decide (k_ < (((List.length list) : Nat) : Int)) then
      bif decide (1 < k_) then
        bif (decide (0 ≤ (w64 (k_ - 1))) && decide ((w64 (k_ - 1)) < (((List.length list) : Nat) : Int))) then
          (list[(w64 (k_ - 1)).toNat]?).bind fun e_ =>
          bif (decide (0 ≤ e_) && decide (e_ < (((List.length b_1) : Nat) : Int))) then
            (b_1[e_.toNat]?).bind fun e_1 =>
            bif decide (((List.length out) + 1) ≤ big) then
              bif (decide (0 ≤ k_) && decide (k_ < (((List.length list) : Nat) : Int))) then
                (list[k_.toNat]?).bind fun e_2 =>
                bif (decide (0 ≤ (w64 (k_ - 1))) && decide ((w64 (k_ - 1)) < (((List.length list) : Nat) : Int))) then
                  (list[(w64 (k_ - 1)).toNat]?).bind fun e_3 =>
                  bif decide (((List.length (out ++ [(w64 (e_1 - 2))])) + 1) ≤ big) then
                    impl_sail_sequence_0P_l3 k (w64 (k_ + 1)) ((out ++ [(w64 (e_1 - 2))]) ++ [(w64 (e_2 - e_3))]) list b_ b_1 b0 r0
                  else
                    none
                else
                  none
              else
                none
            else
              none
          else
            none
        else
          none
      else
      bif (decide (0 ≤ k_) && decide (k_ < (((List.length list) : Nat) : Int))) then
        (list[k_.toNat]?).bind fun e_4 =>
        bif (decide (0 ≤ (w64 (k_ - 1))) && decide ((w64 (k_ - 1)) < (((List.length list) : Nat) : Int))) then
          (list[(w64 (k_ - 1)).toNat]?).bind fun e_5 =>
          bif decide (((List.length out) + 1) ≤ big) then
            impl_sail_sequence_0P_l3 k (w64 (k_ + 1)) (out ++ [(w64 (e_4 - e_5))]) list b_ b_1 b0 r0
          else
            none
        else
          none
      else
        none
    else
      b0 k_ out list b_ b_1

/-- (*loop.example/g01297/impl.sail).sequence -/
def impl_sail_sequence_0P {α : Type} (k : Nat) (s : List (Int × Int)) (s1 : List Int) (r0 : List Int → Option α) : Option α :=
  impl_sail_vertices_0P k s s1 fun v =>
  impl_sail_sequence_0P_l3 k 1 [] v s s1
    (fun _ out1 _ _ _ =>
      r0 out1)
    r0

/-- loop.example/g01297/impl.SequenceOf -/
def impl_SequenceOf {α : Type} (k : Nat) (a : Int) (a1 : Int) (b_ : Int) (b_1 : Int) (r0 : Int → Option α) (r1 : List Int → Int → Option α) : Option α :=
  impl_angleSail k a a1 b_ b_1
    (fun v =>
      bif (!decide (v = 0)) then
        r0 v
      else
        impl_sail_sequence_0Z k)
    (fun v1 v2 v3 =>
      bif (!decide (v3 = 0)) then
        r0 v3
      else
        impl_sail_sequence_0P k v1 v2 fun v4 =>
        r1 v4 0)

def impl_every_0N_l3 {α : Type} : Nat → Int → List Int → (Int → List Int → Option α) → (List Int → Option α) → Option α
  | 0, _, _, _, _ => none
  | k + 1, i, out, b0, r0 =>
    bif decide (i < 0) then
      none
    else
      b0 i out

/-- loop.example/g01297/impl.every -/
def impl_every_0N {α : Type} (k : Nat) (from_ : Int) (r0 : List Int → Option α) : Option α :=
  impl_every_0N_l3 k from_ []
    (fun _ out1 =>
      r0 out1)
    r0

def impl_every_l3 {α : Type} : Nat → Int → List Int → List Int → (Int → List Int → List Int → Option α) → (List Int → Option α) → Option α
  | 0, _, _, _, _, _ => none
  | k + 1, i, list1, out, b0, r0 =>
    bif decide (i < (((List.length list1) : Nat) : Int)) then
      bif (decide (0 ≤ i) && decide (i < (((List.length list1) : Nat) : Int))) then
        (list1[i.toNat]?).bind fun e_ =>
        bif decide (((List.length out) + 1) ≤ big) then
          impl_every_l3 k (w64 (i + 2)) list1 (out ++ [e_]) b0 r0
        else
          none
      else
        none
    else
      b0 i list1 out

/-- loop.example/g01297/impl.every -/
def impl_every {α : Type} (k : Nat) (list : List Int) (from_ : Int) (r0 : List Int → Option α) : Option α :=
  impl_every_l3 k from_ list []
    (fun _ _ out1 =>
      r0 out1)
    r0

/-- loop.example/g01297/impl.SailLengths -/
def impl_SailLengths {α : Type} (k : Nat) (a : Int) (a1 : Int) (b_ : Int) (b_1 : Int) (r0 : Int → Option α) (r1 : List Int → Int → Option α) : Option α :=
  impl_SequenceOf k a a1 b_ b_1
    (fun v =>
      bif (!decide (v = 0)) then
        r0 v
      else
        impl_every_0N k 0 fun v1 =>
        r1 v1 0)
    (fun v2 v3 =>
      bif (!decide (v3 = 0)) then
        r0 v3
      else
        impl_every k v2 0 fun v4 =>
        r1 v4 0)

/-- loop.example/g01297/spec.l03With -/
def spec_l03With {α : Type} (k : Nat) (code : List Int) (r0 : Int → Int → Int → Int → Int → Int → Option α) : Option α :=
  spec_l01From k code fun v v1 =>
  spec_l03Draw k code v v1 fun v2 v3 v4 v5 v6 v7 =>
  spec_l01Pick k code v6 v7 [2, 6, 20] fun v8 v9 v10 =>
  spec_l01DrawPoint k code v9 v10 v8 fun v11 v12 v13 v14 =>
  spec_l01Next k code v13 v14 4 fun v15 v16 v17 =>
  bif decide (v15 = 0) then
    spec_l01Next k code v16 v17 4 fun v18 v19 v20 =>
    spec_l01Plus k 0 0 v2 v3 v18 fun v21 v22 =>
    spec_l01Next k code v19 v20 4 fun v23 v24 v25 =>
    spec_l01Plus k v21 v22 v4 v5 v23 fun v26 v27 =>
    spec_l01Bad k code v24 v25 v26 v27 fun v28 v29 _ _ =>
    r0 v2 v3 v4 v5 v28 v29
  else
  bif decide (v15 = 1) then
    spec_l03Code k v2 v3 v4 v5
      (fun v32 =>
        bif decide (v32 = 0) then
          spec_l01Next k code v16 v17 0 fun _ _ _ =>
          none
        else
          spec_l01Bad k code v16 v17 v11 v12 fun v36 v37 _ _ =>
          r0 v2 v3 v4 v5 v36 v37)
      (fun v40 _ v42 =>
        bif decide (v42 = 0) then
          spec_l01Next k code v16 v17 (((List.length v40) : Nat) : Int) fun v43 v44 v45 =>
          bif (decide (0 ≤ v43) && decide (v43 < (((List.length v40) : Nat) : Int))) then
            (v40[v43.toNat]?).bind fun e_ =>
            spec_l01Next k code v44 v45 2 fun v46 v47 v48 =>
            bif decide (v46 = 0) then
              bif (decide (0 ≤ (min (w64 (v43 + 1)) (w64 ((((List.length v40) : Nat) : Int) - 1)))) && decide ((min (w64 (v43 + 1)) (w64 ((((List.length v40) : Nat) : Int) - 1))) < (((List.length v40) : Nat) : Int))) then
                (v40[(min (w64 (v43 + 1)) (w64 ((((List.length v40) : Nat) : Int) - 1))).toNat]?).bind fun e_1 =>
                spec_l01Next k code v47 v48 3 fun v49 v50 v51 =>
                spec_l01Plus k 0 0 e_.1 e_.2 (w64 (1 + v49)) fun v52 v53 =>
                spec_l01Next k code v50 v51 3 fun v54 v55 v56 =>
                spec_l01Plus k v52 v53 e_1.1 e_1.2 v54 fun v57 v58 =>
                spec_l01Bad k code v55 v56 v57 v58 fun v59 v60 _ _ =>
                r0 v2 v3 v4 v5 v59 v60
              else
                none
            else
              spec_l01Bad k code v47 v48 e_.1 e_.2 fun v63 v64 _ _ =>
              r0 v2 v3 v4 v5 v63 v64
          else
            none
        else
          spec_l01Bad k code v16 v17 v11 v12 fun v67 v68 _ _ =>
          r0 v2 v3 v4 v5 v67 v68)
  else
    spec_l01Bad k code v16 v17 v11 v12 fun v71 v72 _ _ =>
    r0 v2 v3 v4 v5 v71 v72

/-- loop.example/g01297/spec.DrawSplitPoint -/
def spec_DrawSplitPoint {α : Type} (k : Nat) (code : List Int) (r0 : Int → Int → Int → Int → Int → Int → Option α) : Option α :=
  spec_l03With k code fun v v1 v2 v3 v4 v5 =>
  r0 v v1 v2 v3 v4 v5

/-- loop.example/g01297/impl.inAngle -/
def impl_inAngle {α : Type} (k : Nat) (a : Int) (a1 : Int) (b_ : Int) (b_1 : Int) (c : Int) (c1 : Int) (r0 : Bool → Option α) : Option α :=
  impl_det k a a1 c c1 fun v =>
  bif decide (0 ≤ v) then
    impl_det k c c1 b_ b_1 fun v1 =>
    r0 (decide (0 ≤ v1))
  else
    r0 false

def impl_SplitPoint_l10 {α : Type} : Nat → Int → Int → Int → Int → Int → (List (Int × Int)) → List Int → (Int → Int → Int → Int → Int → (List (Int × Int)) → List Int → Option α) → (Int → Option α) → (List Int → Int → Option α) → Option α
  | 0, _, _, _, _, _, _, _, _, _, _ => none
  | k + 1, last, x, x1, c2, c3, b_2, b_3, b1, r0, r1 =>
    bif decide (x1 < x) then
      bif (decide (0 ≤ (w64 (x1 + 1))) && decide ((w64 (x1 + 1)) < (((List.length b_2) : Nat) : Int))) then
        (b_2[(w64 (x1 + 1)).toNat]?).bind fun e_ =>
        bif (decide (0 ≤ x1) && decide (x1 < (((List.length b_2) : Nat) : Int))) then
          (b_2[x1.toNat]?).bind fun e_1 =>
          impl_det k c2 c3 e_.1 e_.2 fun v7 =>
          impl_det k e_1.1 e_1.2 c2 c3 fun v8 =>
          bif decide (0 ≤ v8) then
            bif decide (1 ≤ v7) then
              r1 [x1, v7, v8] 0
            else
            bif decide (v7 = 0) then
              bif decide (x1 = last) then
                r1 [x1, v7, v8] 0
              else
                impl_SplitPoint_l10 k last x (w64 (x1 + 1)) c2 c3 b_2 b_3 b1 r0 r1
            else
              impl_SplitPoint_l10 k last x (w64 (x1 + 1)) c2 c3 b_2 b_3 b1 r0 r1
          else
            impl_SplitPoint_l10 k last x (w64 (x1 + 1)) c2 c3 b_2 b_3 b1 r0 r1
        else
          none
      else
        none
    else
      b1 last x x1 c2 c3 b_2 b_3

/-- loop.example/g01297/impl.SplitPoint -/
def impl_SplitPoint {α : Type} (k : Nat) (a : Int) (a1 : Int) (b_ : Int) (b_1 : Int) (c : Int) (c1 : Int) (r0 : Int → Option α) (r1 : List Int → Int → Option α) : Option α :=
  impl_IsAngle k a a1 b_ b_1 fun v =>
  bif (!v) then
    r0 1
  else
    impl_IsPoint k c c1 fun v1 =>
    bif (!v1) then
      r0 1
    else
      impl_inAngle k a a1 b_ b_1 c c1 fun v2 =>
      bif (!v2) then
        r0 4
      else
      bif (decide (c = 0) && decide (c1 = 0)) then
        r0 4
      else
        impl_sailOf k a a1 b_ b_1
          (fun v3 =>
            bif (!decide (v3 = 0)) then
              r0 v3
            else
              none)
          (fun v4 v5 v6 =>
            bif (!decide (v6 = 0)) then
              r0 v6
            else
              impl_SplitPoint_l10 k (w64 ((((List.length v4) : Nat) : Int) - 2)) (w64 ((w64 ((((List.length v4) : Nat) : Int) - 2)) + 1)) 0 c c1 v4 v5
                (fun _ _ _ _ _ _ _ =>
                  r0 4)
                r0 r1)

/-- loop.example/g01297/spec.l03Inside -/
def spec_l03Inside {α : Type} (k : Nat) (a : Int) (a1 : Int) (b_ : Int) (b_1 : Int) (c : Int) (c1 : Int) (r0 : Bool → Option α) : Option α :=
  spec_l01Det k a a1 c c1 fun v =>
  bif decide (0 ≤ v) then
    spec_l01Det k c c1 b_ b_1 fun v1 =>
    r0 (decide (0 ≤ v1))
  else
    r0 false

def spec_SplitPoint_l9 {α : Type} : Nat → Int → Int → Int → (List (Int × Int)) → (Int → Int → Int → (List (Int × Int)) → Option α) → (Int → Option α) → (List Int → Int → Option α) → Option α
  | 0, _, _, _, _, _, _, _ => none
  | k + 1, i, c2, c3, points, b1, r0, r1 =>
    bif decide ((w64 (i + 2)) < (((List.length points) : Nat) : Int)) then
      bif (decide (0 ≤ (w64 (i + 1))) && decide ((w64 (i + 1)) < (((List.length points) : Nat) : Int))) then
        (points[(w64 (i + 1)).toNat]?).bind fun e_ =>
        spec_l01Det k c2 c3 e_.1 e_.2 fun v4 =>
        bif decide (0 < v4) then
          bif (decide (0 ≤ (w64 (i + 1))) && decide ((w64 (i + 1)) < (((List.length points) : Nat) : Int))) then
            (points[(w64 (i + 1)).toNat]?).bind fun e_1 =>
            bif (decide (0 ≤ i) && decide (i < (((List.length points) : Nat) : Int))) then
              (points[i.toNat]?).bind fun e_2 =>
              spec_l01Det k c2 c3 e_1.1 e_1.2 fun v5 =>
              spec_l01Det k e_2.1 e_2.2 c2 c3 fun v6 =>
              r1 [i, v5, v6] 0
            else
              none
          else
            none
        else
          spec_SplitPoint_l9 k (w64 (i + 1)) c2 c3 points b1 r0 r1
      else
        none
    else
      b1 i c2 c3 points

/-- loop.example/g01297/spec.SplitPoint -/
def spec_SplitPoint {α : Type} (k : Nat) (a : Int) (a1 : Int) (b_ : Int) (b_1 : Int) (c : Int) (c1 : Int) (r0 : Int → Option α) (r1 : List Int → Int → Option α) : Option α :=
  spec_l03Is k a a1 b_ b_1 fun v =>
  bif (!v) then
    r0 1
  else
    spec_l01Is k c c1 fun v1 =>
    bif (!v1) then
      r0 1
    else
      spec_l03Inside k a a1 b_ b_1 c c1 fun v2 =>
      bif (!v2) then
        r0 4
      else
      bif (decide (c = 0) && decide (c1 = 0)) then
        r0 4
      else
        spec_l03Code k a a1 b_ b_1
          (fun v3 =>
            bif (!decide (v3 = 0)) then
              r0 v3
            else
              spec_SplitPoint_l9 k 0 c c1 []
                (fun _ c4 c5 points1 =>
                  bif (decide (0 ≤ (w64 ((w64 ((((List.length points1) : Nat) : Int) - 2)) + 1))) && decide ((w64 ((w64 ((((List.length points1) : Nat) : Int) - 2)) + 1)) < (((List.length points1) : Nat) : Int))) then
                    (points1[(w64 ((w64 ((((List.length points1) : Nat) : Int) - 2)) + 1)).toNat]?).bind fun e_3 =>
                    bif (decide (0 ≤ (w64 ((((List.length points1) : Nat) : Int) - 2))) && decide ((w64 ((((List.length points1) : Nat) : Int) - 2)) < (((List.length points1) : Nat) : Int))) then
                      (points1[(w64 ((((List.length points1) : Nat) : Int) - 2)).toNat]?).bind fun e_4 =>
                      spec_l01Det k c4 c5 e_3.1 e_3.2 fun v7 =>
                      spec_l01Det k e_4.1 e_4.2 c4 c5 fun v8 =>
                      r1 [(w64 ((((List.length points1) : Nat) : Int) - 2)), v7, v8] 0
                    else
                      none
                  else
                    none)
                r0 r1)
          (fun v9 _ v11 =>
            bif (!decide (v11 = 0)) then
              r0 v11
            else
              spec_SplitPoint_l9 k 0 c c1 v9
                (fun _ c6 c7 points2 =>
                  bif (decide (0 ≤ (w64 ((w64 ((((List.length points2) : Nat) : Int) - 2)) + 1))) && decide ((w64 ((w64 ((((List.length points2) : Nat) : Int) - 2)) + 1)) < (((List.length points2) : Nat) : Int))) then
                    (points2[(w64 ((w64 ((((List.length points2) : Nat) : Int) - 2)) + 1)).toNat]?).bind fun e_5 =>
                    bif (decide (0 ≤ (w64 ((((List.length points2) : Nat) : Int) - 2))) && decide ((w64 ((((List.length points2) : Nat) : Int) - 2)) < (((List.length points2) : Nat) : Int))) then
                      (points2[(w64 ((((List.length points2) : Nat) : Int) - 2)).toNat]?).bind fun e_6 =>
                      spec_l01Det k c6 c7 e_5.1 e_5.2 fun v12 =>
                      spec_l01Det k e_6.1 e_6.2 c6 c7 fun v13 =>
                      r1 [(w64 ((((List.length points2) : Nat) : Int) - 2)), v12, v13] 0
                    else
                      none
                  else
                    none)
                r0 r1)

/-- loop.example/g01297/laws.likeInts -/
def laws_likeInts_0N_1N {α : Type} (k : Nat)  (r0 : Bool → Option α) : Option α :=
  r0 true

/-- loop.example/g01297/spec.DrawPlaceOnSail -/
def spec_DrawPlaceOnSail {α : Type} (k : Nat) (code : List Int) (r0 : Int → Int → Int → Int → Int → Int → Option α) : Option α :=
  spec_l03With k code fun v v1 v2 v3 v4 v5 =>
  r0 v v1 v2 v3 v4 v5

def slices_Index_impl_Point_impl_Point_l2 {α : Type} : Nat → Int → Int → (List (Int × Int)) → Int → Int → (Int → Int → (List (Int × Int)) → Int → Int → Option α) → (Int → Option α) → Option α
  | 0, _, _, _, _, _, _, _ => none
  | k + 1, x, x1, s1, v2, v3, b0, r0 =>
    bif decide (x1 < x) then
      bif (decide (0 ≤ x1) && decide (x1 < (((List.length s1) : Nat) : Int))) then
        (s1[x1.toNat]?).bind fun e_ =>
        bif (decide (v2 = e_.1) && decide (v3 = e_.2)) then
          r0 x1
        else
          slices_Index_impl_Point_impl_Point_l2 k x (w64 (x1 + 1)) s1 v2 v3 b0 r0
      else
        none
    else
      b0 x x1 s1 v2 v3

/-- slices.Index[[]loop.example/g01297/impl.Point,loop.example/g01297/impl.Point] -/
def slices_Index_impl_Point_impl_Point {α : Type} (k : Nat) (s : List (Int × Int)) (v : Int) (v1 : Int) (r0 : Int → Option α) : Option α :=
  slices_Index_impl_Point_impl_Point_l2 k (((List.length s) : Nat) : Int) 0 s v v1
    (fun _ _ _ _ _ =>
      r0 (-1))
    r0

/-- loop.example/g01297/impl.PlaceOnSail -/
def impl_PlaceOnSail {α : Type} (k : Nat) (a : Int) (a1 : Int) (b_ : Int) (b_1 : Int) (c : Int) (c1 : Int) (r0 : Int → Int → Option α) : Option α :=
  impl_IsAngle k a a1 b_ b_1 fun v =>
  bif (!v) then
    r0 0 1
  else
    impl_IsPoint k c c1 fun v1 =>
    bif (!v1) then
      r0 0 1
    else
      impl_sailOf k a a1 b_ b_1
        (fun v2 =>
          bif (!decide (v2 = 0)) then
            r0 0 v2
          else
            none)
        (fun v3 _ v5 =>
          bif (!decide (v5 = 0)) then
            r0 0 v5
          else
            slices_Index_impl_Point_impl_Point k v3 c c1 fun v6 =>
            bif decide (v6 < 0) then
              r0 0 4
            else
              r0 v6 0)

def spec_PlaceOnSail_l7 {α : Type} : Nat → Int → Int → Int → (List (Int × Int)) → (Int → Int → Int → (List (Int × Int)) → Option α) → (Int → Int → Option α) → Option α
  | 0, _, _, _, _, _, _ => none
  | k + 1, i, c2, c3, points, b0, r0 =>
    bif decide (i < (((List.length points) : Nat) : Int)) then
      bif (decide (0 ≤ i) && decide (i < (((List.length points) : Nat) : Int))) then
        (points[i.toNat]?).bind fun e_ =>
        bif (decide (e_.1 = c2) && decide (e_.2 = c3)) then
          r0 i 0
        else
          spec_PlaceOnSail_l7 k (w64 (i + 1)) c2 c3 points b0 r0
      else
        none
    else
      b0 i c2 c3 points

/-- loop.example/g01297/spec.PlaceOnSail -/
def spec_PlaceOnSail {α : Type} (k : Nat) (a : Int) (a1 : Int) (b_ : Int) (b_1 : Int) (c : Int) (c1 : Int) (r0 : Int → Int → Option α) : Option α :=
  spec_l01Is k c c1 fun v =>
  bif (!v) then
    r0 0 1
  else
    spec_l03Code k a a1 b_ b_1
      (fun v1 =>
        bif (!decide (v1 = 0)) then
          r0 0 v1
        else
          spec_PlaceOnSail_l7 k 0 c c1 []
            (fun _ _ _ _ =>
              r0 0 4)
            r0)
      (fun v2 _ v4 =>
        bif (!decide (v4 = 0)) then
          r0 0 v4
        else
          spec_PlaceOnSail_l7 k 0 c c1 v2
            (fun _ _ _ _ =>
              r0 0 4)
            r0)

/-- loop.example/g01297/spec.DrawAdjacentAngle -/
def spec_DrawAdjacentAngle {α : Type} (k : Nat) (code : List Int) (r0 : Int → Int → Int → Int → Option α) : Option α :=
  spec_l01From k code fun v v1 =>
  spec_l03Draw k code v v1 fun v2 v3 v4 v5 _ _ =>
  r0 v2 v3 v4 v5

/-- loop.example/g01297/impl.AdjacentAngle -/
def impl_AdjacentAngle {α : Type} (k : Nat) (a : Int) (a1 : Int) (b_ : Int) (b_1 : Int) (r0 : Int → Option α) (r1 : (List (Int × Int)) → Int → Option α) : Option α :=
  impl_IsAngle k a a1 b_ b_1 fun v =>
  bif (!v) then
    r0 1
  else
    impl_Point_less k 0 0 a a1 fun v1 v2 =>
    r1 [(b_, b_1), (v1, v2)] 0

/-- loop.example/g01297/spec.AdjacentAngle -/
def spec_AdjacentAngle {α : Type} (k : Nat) (a : Int) (a1 : Int) (b_ : Int) (b_1 : Int) (r0 : Int → Option α) (r1 : (List (Int × Int)) → Int → Option α) : Option α :=
  spec_l03Is k a a1 b_ b_1 fun v =>
  bif (!v) then
    r0 1
  else
    r1 [(b_, b_1), ((w64 (0 - a)), (w64 (0 - a1)))] 0

/-- loop.example/g01297/spec.DrawIsInAngle -/
def spec_DrawIsInAngle {α : Type} (k : Nat) (code : List Int) (r0 : Int → Int → Int → Int → Int → Int → Option α) : Option α :=
  spec_l03With k code fun v v1 v2 v3 v4 v5 =>
  r0 v v1 v2 v3 v4 v5

/-- loop.example/g01297/impl.IsInAngle -/
def impl_IsInAngle {α : Type} (k : Nat) (a : Int) (a1 : Int) (b_ : Int) (b_1 : Int) (c : Int) (c1 : Int) (r0 : Bool → Int → Option α) : Option α :=
  impl_IsAngle k a a1 b_ b_1 fun v =>
  bif (!v) then
    r0 false 1
  else
    impl_IsPoint k c c1 fun v1 =>
    bif (!v1) then
      r0 false 1
    else
      impl_inAngle k a a1 b_ b_1 c c1 fun v2 =>
      r0 v2 0

/-- loop.example/g01297/spec.IsInAngle -/
def spec_IsInAngle {α : Type} (k : Nat) (a : Int) (a1 : Int) (b_ : Int) (b_1 : Int) (c : Int) (c1 : Int) (r0 : Bool → Int → Option α) : Option α :=
  spec_l03Is k a a1 b_ b_1 fun v =>
  bif (!v) then
    r0 false 1
  else
    spec_l01Is k c c1 fun v1 =>
    bif (!v1) then
      r0 false 1
    else
      spec_l03Inside k a a1 b_ b_1 c c1 fun v2 =>
      r0 v2 0

/-- loop.example/g01297/spec.DrawSailVertices -/
def spec_DrawSailVertices {α : Type} (k : Nat) (code : List Int) (r0 : Int → Int → Int → Int → Option α) : Option α :=
  spec_l01From k code fun v v1 =>
  spec_l03Draw k code v v1 fun v2 v3 v4 v5 _ _ =>
  r0 v2 v3 v4 v5

def spec_SailVertices_l6 {α : Type} : Nat → Int → (List (Int × Int)) → List Int → (List (Int × Int)) → (Int → (List (Int × Int)) → List Int → (List (Int × Int)) → Option α) → (Int → Option α) → ((List (Int × Int)) → Int → Option α) → Option α
  | 0, _, _, _, _, _, _, _ => none
  | k + 1, i, points, numbers, out, b0, r0, r1 =>
    bif decide (i < (((List.length points) : Nat) : Int)) then
      bif decide (i = 0) then
        bif (decide (0 ≤ i) && decide (i < (((List.length points) : Nat) : Int))) then
          (points[i.toNat]?).bind fun e_ =>
          bif decide (((List.length out) + 1) ≤ big) then
            spec_SailVertices_l6 k (w64 (i + 1)) points numbers (out ++ [(e_.1, e_.2)]) b0 r0 r1
          else
            none
        else
          none
      else
      bif decide (i = (w64 ((((List.length points) : Nat) : Int) - 1))) then
        bif (decide (0 ≤ i) && decide (i < (((List.length points) : Nat) : Int))) then
          (points[i.toNat]?).bind fun e_1 =>
          bif decide (((List.length out) + 1) ≤ big) then
            spec_SailVertices_l6 k (w64 (i + 1)) points numbers (out ++ [(e_1.1, e_1.2)]) b0 r0 r1
          else
            none
        else
          none
      else
      bif (decide (0 ≤ i) && decide (i < (((List.length numbers) : Nat) : Int))) then
        (numbers[i.toNat]?).bind fun e_2 =>
        bif decide (2 < e_2) then
          bif (decide (0 ≤ i) && decide (i < (((List.length points) : Nat) : Int))) then
            (points[i.toNat]?).bind fun e_3 =>
            bif decide (((List.length out) + 1) ≤ big) then
              spec_SailVertices_l6 k (w64 (i + 1)) points numbers (out ++ [(e_3.1, e_3.2)]) b0 r0 r1
            else
              none
          else
            none
        else
          spec_SailVertices_l6 k (w64 (i + 1)) points numbers out b0 r0 r1
      else
        none
    else
      b0 i points numbers out

/-- loop.example/g01297/spec.SailVertices -/
def spec_SailVertices {α : Type} (k : Nat) (a : Int) (a1 : Int) (b_ : Int) (b_1 : Int) (r0 : Int → Option α) (r1 : (List (Int × Int)) → Int → Option α) : Option α :=
  spec_l03Code k a a1 b_ b_1
    (fun v =>
      bif (!decide (v = 0)) then
        r0 v
      else
        spec_SailVertices_l6 k 0 [] [] []
          (fun _ _ _ out1 =>
            r1 out1 0)
          r0 r1)
    (fun v1 v2 v3 =>
      bif (!decide (v3 = 0)) then
        r0 v3
      else
        spec_SailVertices_l6 k 0 v1 v2 []
          (fun _ _ _ out2 =>
            r1 out2 0)
          r0 r1)

/-- loop.example/g01297/laws.points5 -/
def laws_points5_0N {α : Type} (k : Nat) (b_ : List (Int × Int)) (r0 : Bool → Option α) : Option α :=
  bif (!decide (0 = (((List.length b_) : Nat) : Int))) then
    r0 false
  else
    r0 true

def laws_points5_1N_l4 {α : Type} : Nat → Int → (List (Int × Int)) → (Int → (List (Int × Int)) → Option α) → (Bool → Option α) → Option α
  | 0, _, _, _, _ => none
  | k + 1, i, a1, b0, r0 =>
    bif decide (i < (((List.length a1) : Nat) : Int)) then
      bif (decide (0 ≤ i) && decide (i < (((List.length a1) : Nat) : Int))) then
        (a1[i.toNat]?).bind fun _ =>
        none
      else
        none
    else
      b0 i a1

/-- loop.example/g01297/laws.points5 -/
def laws_points5_1N {α : Type} (k : Nat) (a : List (Int × Int)) (r0 : Bool → Option α) : Option α :=
  bif (!decide ((((List.length a) : Nat) : Int) = 0)) then
    r0 false
  else
    laws_points5_1N_l4 k 0 a
      (fun _ _ =>
        r0 true)
      r0

def laws_points5_l4 {α : Type} : Nat → Int → (List (Int × Int)) → (List (Int × Int)) → (Int → (List (Int × Int)) → (List (Int × Int)) → Option α) → (Bool → Option α) → Option α
  | 0, _, _, _, _, _ => none
  | k + 1, i, a1, b_1, b0, r0 =>
    bif decide (i < (((List.length a1) : Nat) : Int)) then
      bif (decide (0 ≤ i) && decide (i < (((List.length a1) : Nat) : Int))) then
        (a1[i.toNat]?).bind fun e_ =>
        bif (decide (0 ≤ i) && decide (i < (((List.length b_1) : Nat) : Int))) then
          (b_1[i.toNat]?).bind fun e_1 =>
          bif (!(decide (e_.1 = e_1.1) && decide (e_.2 = e_1.2))) then
            r0 false
          else
            laws_points5_l4 k (w64 (i + 1)) a1 b_1 b0 r0
        else
          none
      else
        none
    else
      b0 i a1 b_1

/-- loop.example/g01297/laws.points5 -/
def laws_points5 {α : Type} (k : Nat) (a : List (Int × Int)) (b_ : List (Int × Int)) (r0 : Bool → Option α) : Option α :=
  bif (!decide ((((List.length a) : Nat) : Int) = (((List.length b_) : Nat) : Int))) then
    r0 false
  else
    laws_points5_l4 k 0 a b_
      (fun _ _ _ =>
        r0 true)
      r0

/-- loop.example/g01297/laws.likeInts -/
def laws_likeInts_0N {α : Type} (k : Nat) (b_ : List Int) (r0 : Bool → Option α) : Option α :=
  bif (!decide (0 = (((List.length b_) : Nat) : Int))) then
    r0 false
  else
    r0 true

def laws_likeInts_1N_l4 {α : Type} : Nat → Int → List Int → (Int → List Int → Option α) → (Bool → Option α) → Option α
  | 0, _, _, _, _ => none
  | k + 1, i, a1, b0, r0 =>
    bif decide (i < (((List.length a1) : Nat) : Int)) then
      bif (decide (0 ≤ i) && decide (i < (((List.length a1) : Nat) : Int))) then
        (a1[i.toNat]?).bind fun _ =>
        none
      else
        none
    else
      b0 i a1

/-- loop.example/g01297/laws.likeInts -/
def laws_likeInts_1N {α : Type} (k : Nat) (a : List Int) (r0 : Bool → Option α) : Option α :=
  bif (!decide ((((List.length a) : Nat) : Int) = 0)) then
    r0 false
  else
    laws_likeInts_1N_l4 k 0 a
      (fun _ _ =>
        r0 true)
      r0

def laws_likeInts_l4 {α : Type} : Nat → Int → List Int → List Int → (Int → List Int → List Int → Option α) → (Bool → Option α) → Option α
  | 0, _, _, _, _, _ => none
  | k + 1, i, a1, b_1, b0, r0 =>
    bif decide (i < (((List.length a1) : Nat) : Int)) then
      bif (decide (0 ≤ i) && decide (i < (((List.length a1) : Nat) : Int))) then
        (a1[i.toNat]?).bind fun e_ =>
        bif (decide (0 ≤ i) && decide (i < (((List.length b_1) : Nat) : Int))) then
          (b_1[i.toNat]?).bind fun e_1 =>
          bif (!decide (e_ = e_1)) then
            r0 false
          else
            laws_likeInts_l4 k (w64 (i + 1)) a1 b_1 b0 r0
        else
          none
      else
        none
    else
      b0 i a1 b_1

/-- loop.example/g01297/laws.likeInts -/
def laws_likeInts {α : Type} (k : Nat) (a : List Int) (b_ : List Int) (r0 : Bool → Option α) : Option α :=
  bif (!decide ((((List.length a) : Nat) : Int) = (((List.length b_) : Nat) : Int))) then
    r0 false
  else
    laws_likeInts_l4 k 0 a b_
      (fun _ _ _ =>
        r0 true)
      r0

/-- loop.example/g01297/laws.sum -/
def laws_sum_0N {α : Type} (k : Nat)  (r0 : Int → Option α) : Option α :=
  r0 0

def laws_sum_l3 {α : Type} : Nat → Int → Int → List Int → (Int → Int → List Int → Option α) → (Int → Option α) → Option α
  | 0, _, _, _, _, _ => none
  | k + 1, n_, i, list1, b0, r0 =>
    bif decide (i < (((List.length list1) : Nat) : Int)) then
      bif (decide (0 ≤ i) && decide (i < (((List.length list1) : Nat) : Int))) then
        (list1[i.toNat]?).bind fun e_ =>
        laws_sum_l3 k (w64 (n_ + e_)) (w64 (i + 1)) list1 b0 r0
      else
        none
    else
      b0 n_ i list1

/-- loop.example/g01297/laws.sum -/
def laws_sum {α : Type} (k : Nat) (list : List Int) (r0 : Int → Option α) : Option α :=
  laws_sum_l3 k 0 0 list
    (fun n_1 _ _ =>
      r0 n_1)
    r0

/-- loop.example/g01297/impl.DeterminantOf -/
def impl_DeterminantOf {α : Type} (k : Nat) (a : Int) (a1 : Int) (b_ : Int) (b_1 : Int) (r0 : Int → Int → Option α) : Option α :=
  impl_points k [(a, a1), (b_, b_1)] fun v =>
  bif (!v) then
    r0 0 1
  else
    impl_det k a a1 b_ b_1 fun v1 =>
    r0 v1 0

/-- loop.example/g01297/impl.LengthOf -/
def impl_LengthOf {α : Type} (k : Nat) (a : Int) (a1 : Int) (b_ : Int) (b_1 : Int) (r0 : Int → Int → Option α) : Option α :=
  impl_points k [(a, a1), (b_, b_1)] fun v =>
  bif (!v) then
    r0 0 1
  else
    impl_Point_less k b_ b_1 a a1 fun v1 v2 =>
    impl_Point_length k v1 v2 fun v3 =>
    r0 v3 0

def laws_FnSails_l15 {α : Type} : Nat → Int → List Int → Int → Int → Int → Int → (List (Int × Int)) → (List (Int × Int)) → List Int → (Int → List Int → Int → Int → Int → Int → (List (Int × Int)) → (List (Int × Int)) → List Int → Option α) → (Bool → Option α) → Option α
  | 0, _, _, _, _, _, _, _, _, _, _, _ => none
  | k + 1, i, code1, a, a1, b_, b_1, points, vertices, lengths, b0, r0 =>
    bif decide (i < (((List.length points) : Nat) : Int)) then
      bif decide (i < 200) then
        bif (decide (0 ≤ (w64 (i - 1))) && decide ((w64 (i - 1)) < (((List.length points) : Nat) : Int))) then
          (points[(w64 (i - 1)).toNat]?).bind fun e_104 =>
          bif (decide (0 ≤ i) && decide (i < (((List.length points) : Nat) : Int))) then
            (points[i.toNat]?).bind fun e_105 =>
            impl_DeterminantOf k e_104.1 e_104.2 e_105.1 e_105.2 fun v2405 v2406 =>
            bif (decide (0 ≤ i) && decide (i < (((List.length points) : Nat) : Int))) then
              (points[i.toNat]?).bind fun e_106 =>
              impl_IsInAngle k a a1 b_ b_1 e_106.1 e_106.2 fun v2407 v2408 =>
              bif (!decide (v2406 = 0)) then
                r0 false
              else
              bif (!decide (v2408 = 0)) then
                r0 false
              else
              bif (!decide (v2405 = 1)) then
                r0 false
              else
              bif (!v2407) then
                r0 false
              else
                laws_FnSails_l15 k (w64 (i + 1)) code1 a a1 b_ b_1 points vertices lengths b0 r0
            else
              none
          else
            none
        else
          none
      else
        b0 i code1 a a1 b_ b_1 points vertices lengths
    else
      b0 i code1 a a1 b_ b_1 points vertices lengths

def laws_FnSails_l22 {α : Type} : Nat → Int → List Int → (List (Int × Int)) → List Int → (Int → List Int → (List (Int × Int)) → List Int → Option α) → (Bool → Option α) → Option α
  | 0, _, _, _, _, _, _ => none
  | k + 1, i2, code3, vertices2, lengths2, b2, r0 =>
    bif decide (i2 < (((List.length lengths2) : Nat) : Int)) then
      bif (decide (0 ≤ i2) && decide (i2 < (((List.length vertices2) : Nat) : Int))) then
        (vertices2[i2.toNat]?).bind fun e_107 =>
        bif (decide (0 ≤ (w64 (i2 + 1))) && decide ((w64 (i2 + 1)) < (((List.length vertices2) : Nat) : Int))) then
          (vertices2[(w64 (i2 + 1)).toNat]?).bind fun e_108 =>
          impl_LengthOf k e_107.1 e_107.2 e_108.1 e_108.2 fun v2409 v2410 =>
          bif (!decide (v2410 = 0)) then
            r0 false
          else
          bif (decide (0 ≤ i2) && decide (i2 < (((List.length lengths2) : Nat) : Int))) then
            (lengths2[i2.toNat]?).bind fun e_109 =>
            bif (!decide (v2409 = e_109)) then
              r0 false
            else
              laws_FnSails_l22 k (w64 (i2 + 1)) code3 vertices2 lengths2 b2 r0
          else
            none
        else
          none
      else
        none
    else
      b2 i2 code3 vertices2 lengths2

/-- loop.example/g01297/laws.FnSails -/
def laws_FnSails_b0 {α : Type} (F0 : Nat → List Int → (Bool → Option α) → Option α) (F1 : Nat → List Int → (Int → Int → Int → Int → Option α) → Option α) (F2 : Nat → Int → Int → Int → Int → (Int → Option α) → ((List (Int × Int)) → Int → Option α) → Option α) (k : Nat) (code : List Int) (κ5 : Int → List Int → Int → Int → Int → Int → (List (Int × Int)) → Option α) (r0 : Bool → Option α) : Option α :=
  F0 k code fun v =>
  bif v then
    r0 true
  else
    F1 k code fun v1 v2 v3 v4 =>
    F2 k v1 v2 v3 v4
      (fun v5 =>
        κ5 v5 code v1 v2 v3 v4 [])
      (fun v6 v7 =>
        κ5 v7 code v1 v2 v3 v4 v6)
def laws_FnSails_b1 {α : Type} (F3 : Nat → Int → Int → Int → Int → (Int → Option α) → ((List (Int × Int)) → Int → Option α) → Option α) (k : Nat) (one : Int) (code1 : List Int) (a : Int) (a1 : Int) (b_ : Int) (b_1 : Int) (points : List (Int × Int)) (κ6 : Int → Int → List Int → Int → Int → Int → Int → (List (Int × Int)) → (List (Int × Int)) → Option α) (r0 : Bool → Option α) : Option α :=
  F3 k a a1 b_ b_1
    (fun v8 =>
      κ6 one v8 code1 a a1 b_ b_1 points [])
    (fun v9 v10 =>
      κ6 one v10 code1 a a1 b_ b_1 points v9)
def laws_FnSails_b2 {α : Type} (F5 : Nat → Int → Int → Int → Int → (Bool → Option α) → Option α) (F6 : Nat → Int → Int → Int → Int → (Bool → Option α) → Option α) (F27 : Nat → (List (Int × Int)) → (List (Int × Int)) → (Bool → Option α) → Option α) (k : Nat) (one1 : Int) (two : Int) (code2 : List Int) (a2 : Int) (a3 : Int) (b_2 : Int) (b_3 : Int) (points1 : List (Int × Int)) (want : List (Int × Int)) (κ7 : Option α) (κ8 : Int → List Int → Int → Int → Int → Int → (List (Int × Int)) → Option α) (r0 : Bool → Option α) : Option α :=
  bif (!decide (one1 = two)) then
    κ7
  else
    F27 k points1 want fun v11 =>
    bif (!v11) then
      κ7
    else
      F5 k a2 a3 b_2 b_3 fun v12 =>
      F6 k a2 a3 b_2 b_3 fun v13 =>
      bif (!(v12 == v13)) then
        κ7
      else
        κ8 one1 code2 a2 a3 b_2 b_3 points1
def laws_FnSails_b3 {α : Type}  (k : Nat)  (r0 : Bool → Option α) : Option α :=
  r0 false
def laws_FnSails_b4 {α : Type} (F7 : Nat → Int → Int → Int → Int → (Int → Int → Option α) → Option α) (F8 : Nat → Int → Int → Int → Int → (Int → Option α) → ((List (Int × Int)) → Int → Option α) → Option α) (k : Nat) (one2 : Int) (code3 : List Int) (a4 : Int) (a5 : Int) (b_4 : Int) (b_5 : Int) (points2 : List (Int × Int)) (κ11 : Int → Int → Int → List Int → Int → Int → Int → Int → (List (Int × Int)) → (List (Int × Int)) → Option α) (κ27 : List Int → Option α) (r0 : Bool → Option α) : Option α :=
  bif decide (one2 = 0) then
    F7 k a4 a5 b_4 b_5 fun v14 v15 =>
    F8 k a4 a5 b_4 b_5
      (fun v16 =>
        κ11 v14 v15 v16 code3 a4 a5 b_4 b_5 points2 [])
      (fun v17 v18 =>
        κ11 v14 v15 v18 code3 a4 a5 b_4 b_5 points2 v17)
  else
    κ27 code3
def laws_FnSails_b5 {α : Type} (F9 : Nat → Int → Int → Int → Int → (Int → Option α) → (List Int → Int → Option α) → Option α) (k : Nat) (below : Int) (three : Int) (four : Int) (code4 : List Int) (a6 : Int) (a7 : Int) (b_6 : Int) (b_7 : Int) (points3 : List (Int × Int)) (vertices : List (Int × Int)) (κ12 : Int → Int → Int → Int → List Int → Int → Int → Int → Int → (List (Int × Int)) → (List (Int × Int)) → List Int → Option α) (r0 : Bool → Option α) : Option α :=
  F9 k a6 a7 b_6 b_7
    (fun v19 =>
      κ12 below three four v19 code4 a6 a7 b_6 b_7 points3 vertices [])
    (fun v20 v21 =>
      κ12 below three four v21 code4 a6 a7 b_6 b_7 points3 vertices v20)
def laws_FnSails_b6 {α : Type} (F32 : Nat → List Int → (Int → Option α) → Option α) (k : Nat) (below1 : Int) (three1 : Int) (four1 : Int) (five : Int) (code5 : List Int) (a8 : Int) (a9 : Int) (b_8 : Int) (b_9 : Int) (points4 : List (Int × Int)) (vertices1 : List (Int × Int)) (lengths : List Int) (κ13 : Option α) (κ14 : List Int → Int → Int → Int → Int → (List (Int × Int)) → (List (Int × Int)) → List Int → Option α) (r0 : Bool → Option α) : Option α :=
  bif (!decide (three1 = 0)) then
    κ13
  else
  bif (!decide (four1 = 0)) then
    κ13
  else
  bif (!decide (five = 0)) then
    κ13
  else
  bif decide ((((List.length points4) : Nat) : Int) < 2) then
    κ13
  else
  bif (true && decide (0 < (((List.length points4) : Nat) : Int))) then
    (points4[0]?).bind fun e_ =>
    bif (!(decide (e_.1 = a8) && decide (e_.2 = a9))) then
      κ13
    else
    bif (decide (0 ≤ (w64 ((((List.length points4) : Nat) : Int) - 1))) && decide ((w64 ((((List.length points4) : Nat) : Int) - 1)) < (((List.length points4) : Nat) : Int))) then
      (points4[(w64 ((((List.length points4) : Nat) : Int) - 1)).toNat]?).bind fun e_1 =>
      bif (!(decide (e_1.1 = b_8) && decide (e_1.2 = b_9))) then
        κ13
      else
        F32 k lengths fun v22 =>
        bif (!decide (below1 = v22)) then
          κ13
        else
        bif (!decide (below1 = (w64 ((((List.length points4) : Nat) : Int) - 1)))) then
          κ13
        else
        bif (!decide ((((List.length vertices1) : Nat) : Int) = (w64 ((((List.length lengths) : Nat) : Int) + 1)))) then
          κ13
        else
          κ14 code5 a8 a9 b_8 b_9 points4 vertices1 lengths
    else
      none
  else
    none
def laws_FnSails_b7 {α : Type}  (k : Nat)  (r0 : Bool → Option α) : Option α :=
  r0 false
def laws_FnSails_b8 {α : Type} (G15 : Nat → Int → List Int → Int → Int → Int → Int → (List (Int × Int)) → (List (Int × Int)) → List Int → (Int → List Int → Int → Int → Int → Int → (List (Int × Int)) → (List (Int × Int)) → List Int → Option α) → (Bool → Option α) → Option α) (G22 : Nat → Int → List Int → (List (Int × Int)) → List Int → (Int → List Int → (List (Int × Int)) → List Int → Option α) → (Bool → Option α) → Option α) (k : Nat) (code6 : List Int) (a10 : Int) (a11 : Int) (b_10 : Int) (b_11 : Int) (points5 : List (Int × Int)) (vertices2 : List (Int × Int)) (lengths1 : List Int) (κ27 : List Int → Option α) (r0 : Bool → Option α) : Option α :=
  G15 k 1 code6 a10 a11 b_10 b_11 points5 vertices2 lengths1
    (fun _ code8 _ _ _ _ _ vertices4 lengths3 =>
      G22 k 0 code8 vertices4 lengths3
        (fun _ code10 _ _ =>
          κ27 code10)
        r0)
    r0
def laws_FnSails_b9 {α : Type} (F10 : Nat → List Int → (Int → Int → Int → Int → Int → Int → Option α) → Option α) (F11 : Nat → Int → Int → Int → Int → Int → Int → (Int → Option α) → (List Int → Int → Option α) → Option α) (k : Nat) (code11 : List Int) (κ29 : Int → List Int → Int → Int → Int → Int → Int → Int → List Int → Option α) (r0 : Bool → Option α) : Option α :=
  F10 k code11 fun v29 v30 v31 v32 v33 v34 =>
  F11 k v29 v30 v31 v32 v33 v34
    (fun v35 =>
      κ29 v35 code11 v29 v30 v31 v32 v33 v34 [])
    (fun v36 v37 =>
      κ29 v37 code11 v29 v30 v31 v32 v33 v34 v36)
def laws_FnSails_b10 {α : Type} (F12 : Nat → Int → Int → Int → Int → Int → Int → (Int → Option α) → (List Int → Int → Option α) → Option α) (k : Nat) (nine : Int) (code12 : List Int) (c : Int) (c1 : Int) (d : Int) (d1 : Int) (p_ : Int) (p_1 : Int) (split : List Int) (κ30 : Int → Int → List Int → Int → Int → Int → Int → Int → Int → List Int → List Int → Option α) (r0 : Bool → Option α) : Option α :=
  F12 k c c1 d d1 p_ p_1
    (fun v38 =>
      κ30 nine v38 code12 c c1 d d1 p_ p_1 split [])
    (fun v39 v40 =>
      κ30 nine v40 code12 c c1 d d1 p_ p_1 split v39)
def laws_FnSails_b11 {α : Type} (F30 : Nat → List Int → List Int → (Bool → Option α) → Option α) (k : Nat) (nine1 : Int) (ten : Int) (code13 : List Int) (c2 : Int) (c3 : Int) (d2 : Int) (d3 : Int) (p_2 : Int) (p_3 : Int) (split1 : List Int) (due : List Int) (κ31 : Option α) (κ32 : Int → List Int → Int → Int → Int → Int → Int → Int → List Int → Option α) (r0 : Bool → Option α) : Option α :=
  bif (!decide (nine1 = ten)) then
    κ31
  else
    F30 k split1 due fun v41 =>
    bif (!v41) then
      κ31
    else
      κ32 nine1 code13 c2 c3 d2 d3 p_2 p_3 split1
def laws_FnSails_b12 {α : Type}  (k : Nat)  (r0 : Bool → Option α) : Option α :=
  r0 false
def laws_FnSails_b13 {α : Type} (F2 : Nat → Int → Int → Int → Int → (Int → Option α) → ((List (Int × Int)) → Int → Option α) → Option α) (k : Nat) (nine2 : Int) (code14 : List Int) (c4 : Int) (c5 : Int) (d4 : Int) (d5 : Int) (p_4 : Int) (p_5 : Int) (split2 : List Int) (κ34 : Int → List Int → Int → Int → List Int → (List (Int × Int)) → Option α) (κ39 : List Int → Option α) (r0 : Bool → Option α) : Option α :=
  bif decide (nine2 = 0) then
    F2 k c4 c5 d4 d5
      (fun v42 =>
        κ34 v42 code14 p_4 p_5 split2 [])
      (fun v43 v44 =>
        κ34 v44 code14 p_4 p_5 split2 v43)
  else
    κ39 code14
def laws_FnSails_b14 {α : Type}  (k : Nat) (eleven : Int) (code15 : List Int) (p_6 : Int) (p_7 : Int) (split3 : List Int) (some_ : List (Int × Int)) (κ35 : Option α) (κ36 : List Int → Int → Int → List Int → (List (Int × Int)) → Option α) (r0 : Bool → Option α) : Option α :=
  bif (!decide (eleven = 0)) then
    κ35
  else
  bif (!decide ((((List.length split3) : Nat) : Int) = 3)) then
    κ35
  else
  bif (true && decide (0 < (((List.length split3) : Nat) : Int))) then
    (split3[0]?).bind fun e_8 =>
    bif decide (e_8 < 0) then
      κ35
    else
    bif (true && decide (0 < (((List.length split3) : Nat) : Int))) then
      (split3[0]?).bind fun e_9 =>
      bif decide ((((List.length some_) : Nat) : Int) ≤ (w64 (e_9 + 1))) then
        κ35
      else
        κ36 code15 p_6 p_7 split3 some_
    else
      none
  else
    none
def laws_FnSails_b15 {α : Type}  (k : Nat)  (r0 : Bool → Option α) : Option α :=
  r0 false
def laws_FnSails_b16 {α : Type}  (k : Nat) (code16 : List Int) (p_8 : Int) (p_9 : Int) (split4 : List Int) (some_1 : List (Int × Int)) (κ37 : List Int → Int → Int → List Int → Int → Int → Int → Int → Option α) (r0 : Bool → Option α) : Option α :=
  bif (true && decide (0 < (((List.length split4) : Nat) : Int))) then
    (split4[0]?).bind fun e_10 =>
    bif (decide (0 ≤ e_10) && decide (e_10 < (((List.length some_1) : Nat) : Int))) then
      (some_1[e_10.toNat]?).bind fun e_11 =>
      bif (true && decide (0 < (((List.length split4) : Nat) : Int))) then
        (split4[0]?).bind fun e_12 =>
        bif (decide (0 ≤ (w64 (e_12 + 1))) && decide ((w64 (e_12 + 1)) < (((List.length some_1) : Nat) : Int))) then
          (some_1[(w64 (e_12 + 1)).toNat]?).bind fun e_13 =>
          κ37 code16 p_8 p_9 split4 e_11.1 e_11.2 e_13.1 e_13.2
        else
          none
      else
        none
    else
      none
  else
    none
def laws_FnSails_b17 {α : Type}  (k : Nat) (code17 : List Int) (p_10 : Int) (p_11 : Int) (split5 : List Int) (u : Int) (u1 : Int) (v45 : Int) (v46 : Int) (κ38 : Option α) (κ39 : List Int → Option α) (r0 : Bool → Option α) : Option α :=
  bif (true && decide (1 < (((List.length split5) : Nat) : Int))) then
    (split5[1]?).bind fun e_14 =>
    bif (true && decide (2 < (((List.length split5) : Nat) : Int))) then
      (split5[2]?).bind fun e_15 =>
      bif (!decide ((w64 ((w64 (e_14 * u)) + (w64 (e_15 * v45)))) = p_10)) then
        κ38
      else
      bif (true && decide (1 < (((List.length split5) : Nat) : Int))) then
        (split5[1]?).bind fun e_16 =>
        bif (true && decide (2 < (((List.length split5) : Nat) : Int))) then
          (split5[2]?).bind fun e_17 =>
          bif (!decide ((w64 ((w64 (e_16 * u1)) + (w64 (e_17 * v46)))) = p_11)) then
            κ38
          else
            κ39 code17
        else
          none
      else
        none
    else
      none
  else
    none
def laws_FnSails_b18 {α : Type}  (k : Nat)  (r0 : Bool → Option α) : Option α :=
  r0 false
def laws_FnSails_b19 {α : Type} (F14 : Nat → List Int → (Int → Int → Int → Int → Int → Int → Option α) → Option α) (F15 : Nat → Int → Int → Int → Int → Int → Int → (Int → Int → Option α) → Option α) (F16 : Nat → Int → Int → Int → Int → Int → Int → (Int → Int → Option α) → Option α) (k : Nat) (code18 : List Int) (κ43 : Option α) (κ44 : List Int → Option α) (r0 : Bool → Option α) : Option α :=
  F14 k code18 fun v47 v48 v49 v50 v51 v52 =>
  F15 k v47 v48 v49 v50 v51 v52 fun v53 v54 =>
  F16 k v47 v48 v49 v50 v51 v52 fun v55 v56 =>
  bif (!decide (v54 = v56)) then
    κ43
  else
  bif (!decide (v53 = v55)) then
    κ43
  else
    κ44 code18
def laws_FnSails_b20 {α : Type}  (k : Nat)  (r0 : Bool → Option α) : Option α :=
  r0 false
def laws_FnSails_b21 {α : Type} (F17 : Nat → List Int → (Int → Int → Int → Int → Option α) → Option α) (F18 : Nat → Int → Int → Int → Int → (Int → Option α) → ((List (Int × Int)) → Int → Option α) → Option α) (k : Nat) (code19 : List Int) (κ46 : Int → List Int → Int → Int → Int → Int → (List (Int × Int)) → Option α) (r0 : Bool → Option α) : Option α :=
  F17 k code19 fun v57 v58 v59 v60 =>
  F18 k v57 v58 v59 v60
    (fun v61 =>
      κ46 v61 code19 v57 v58 v59 v60 [])
    (fun v62 v63 =>
      κ46 v63 code19 v57 v58 v59 v60 v62)
def laws_FnSails_b22 {α : Type} (F19 : Nat → Int → Int → Int → Int → (Int → Option α) → ((List (Int × Int)) → Int → Option α) → Option α) (k : Nat) (fourteen : Int) (code20 : List Int) (g : Int) (g1 : Int) (h : Int) (h1 : Int) (next : List (Int × Int)) (κ47 : Int → Int → List Int → (List (Int × Int)) → (List (Int × Int)) → Option α) (r0 : Bool → Option α) : Option α :=
  F19 k g g1 h h1
    (fun v64 =>
      κ47 fourteen v64 code20 next [])
    (fun v65 v66 =>
      κ47 fourteen v66 code20 next v65)
def laws_FnSails_b23 {α : Type} (F5 : Nat → Int → Int → Int → Int → (Bool → Option α) → Option α) (F27 : Nat → (List (Int × Int)) → (List (Int × Int)) → (Bool → Option α) → Option α) (k : Nat) (fourteen1 : Int) (fifteen : Int) (code21 : List Int) (next1 : List (Int × Int)) (less : List (Int × Int)) (κ48 : Option α) (κ49 : List Int → Option α) (r0 : Bool → Option α) : Option α :=
  bif (!decide (fourteen1 = fifteen)) then
    κ48
  else
    F27 k next1 less fun v67 =>
    bif (!v67) then
      κ48
    else
    bif decide (fourteen1 = 0) then
      bif (true && decide (0 < (((List.length next1) : Nat) : Int))) then
        (next1[0]?).bind fun e_18 =>
        bif (true && decide (1 < (((List.length next1) : Nat) : Int))) then
          (next1[1]?).bind fun e_19 =>
          F5 k e_18.1 e_18.2 e_19.1 e_19.2 fun v68 =>
          bif (!v68) then
            κ48
          else
            κ49 code21
        else
          none
      else
        none
    else
      κ49 code21
def laws_FnSails_b24 {α : Type}  (k : Nat)  (r0 : Bool → Option α) : Option α :=
  r0 false
def laws_FnSails_b25 {α : Type} (F8 : Nat → Int → Int → Int → Int → (Int → Option α) → ((List (Int × Int)) → Int → Option α) → Option α) (F20 : Nat → List Int → (Int → Int → Int → Int → Int → Int → Option α) → Option α) (F21 : Nat → Int → Int → Int → Int → Int → Int → (Bool → Int → Option α) → Option α) (F22 : Nat → Int → Int → Int → Int → Int → Int → (Bool → Int → Option α) → Option α) (F23 : Nat → List Int → (Int → Int → Int → Int → Option α) → Option α) (k : Nat) (code22 : List Int) (κ54 : Bool → Int → Bool → Int → Int → Int → Int → Int → Int → (List (Int × Int)) → Option α) (r0 : Bool → Option α) : Option α :=
  F20 k code22 fun v69 v70 v71 v72 v73 v74 =>
  F21 k v69 v70 v71 v72 v73 v74 fun v75 v76 =>
  F22 k v69 v70 v71 v72 v73 v74 fun v77 v78 =>
  F23 k code22 fun v79 v80 v81 v82 =>
  F8 k v79 v80 v81 v82
    (fun v83 =>
      κ54 v75 v76 v77 v78 v83 v79 v80 v81 v82 [])
    (fun v84 v85 =>
      κ54 v75 v76 v77 v78 v85 v79 v80 v81 v82 v84)
def laws_FnSails_b26 {α : Type} (F24 : Nat → Int → Int → Int → Int → (Int → Option α) → ((List (Int × Int)) → Int → Option α) → Option α) (k : Nat) (inside : Bool) (sixteen : Int) (all : Bool) (seventeen : Int) (eighteen : Int) (m : Int) (m1 : Int) (n_ : Int) (n_1 : Int) (vertices7 : List (Int × Int)) (κ55 : Bool → Int → Bool → Int → Int → Int → (List (Int × Int)) → (List (Int × Int)) → Option α) (r0 : Bool → Option α) : Option α :=
  F24 k m m1 n_ n_1
    (fun v86 =>
      κ55 inside sixteen all seventeen eighteen v86 vertices7 [])
    (fun v87 v88 =>
      κ55 inside sixteen all seventeen eighteen v88 vertices7 v87)
def laws_FnSails_b27 {α : Type} (F27 : Nat → (List (Int × Int)) → (List (Int × Int)) → (Bool → Option α) → Option α) (k : Nat) (inside1 : Bool) (sixteen1 : Int) (all1 : Bool) (seventeen1 : Int) (eighteen1 : Int) (nineteen : Int) (vertices8 : List (Int × Int)) (other : List (Int × Int)) (r0 : Bool → Option α) : Option α :=
  bif decide (sixteen1 = seventeen1) then
    bif (inside1 == all1) then
      bif decide (eighteen1 = nineteen) then
        F27 k vertices8 other fun v89 =>
        r0 v89
      else
        r0 false
    else
      r0 false
  else
    r0 false
def laws_FnSails_B27 {α : Type} (k : Nat) (inside1 : Bool) (sixteen1 : Int) (all1 : Bool) (seventeen1 : Int) (eighteen1 : Int) (nineteen : Int) (vertices8 : List (Int × Int)) (other : List (Int × Int)) (r0 : Bool → Option α) : Option α :=
  laws_FnSails_b27 laws_points5 k inside1 sixteen1 all1 seventeen1 eighteen1 nineteen vertices8 other r0
def laws_FnSails_B26 {α : Type} (k : Nat) (inside : Bool) (sixteen : Int) (all : Bool) (seventeen : Int) (eighteen : Int) (m : Int) (m1 : Int) (n_ : Int) (n_1 : Int) (vertices7 : List (Int × Int)) (r0 : Bool → Option α) : Option α :=
  laws_FnSails_b26 spec_SailVertices k inside sixteen all seventeen eighteen m m1 n_ n_1 vertices7 (fun inside1 sixteen1 all1 seventeen1 eighteen1 nineteen vertices8 other => laws_FnSails_B27 k inside1 sixteen1 all1 seventeen1 eighteen1 nineteen vertices8 other r0) r0
def laws_FnSails_B25 {α : Type} (k : Nat) (code22 : List Int) (r0 : Bool → Option α) : Option α :=
  laws_FnSails_b25 impl_SailVertices spec_DrawIsInAngle impl_IsInAngle spec_IsInAngle spec_DrawSailVertices k code22 (fun inside sixteen all seventeen eighteen m m1 n_ n_1 vertices7 => laws_FnSails_B26 k inside sixteen all seventeen eighteen m m1 n_ n_1 vertices7 r0) r0
def laws_FnSails_B24 {α : Type} (k : Nat)  (r0 : Bool → Option α) : Option α :=
  laws_FnSails_b24 k r0
def laws_FnSails_B23 {α : Type} (k : Nat) (fourteen1 : Int) (fifteen : Int) (code21 : List Int) (next1 : List (Int × Int)) (less : List (Int × Int)) (r0 : Bool → Option α) : Option α :=
  laws_FnSails_b23 impl_IsAngle laws_points5 k fourteen1 fifteen code21 next1 less (laws_FnSails_B24 k r0) (fun code22 => laws_FnSails_B25 k code22 r0) r0
def laws_FnSails_B22 {α : Type} (k : Nat) (fourteen : Int) (code20 : List Int) (g : Int) (g1 : Int) (h : Int) (h1 : Int) (next : List (Int × Int)) (r0 : Bool → Option α) : Option α :=
  laws_FnSails_b22 spec_AdjacentAngle k fourteen code20 g g1 h h1 next (fun fourteen1 fifteen code21 next1 less => laws_FnSails_B23 k fourteen1 fifteen code21 next1 less r0) r0
def laws_FnSails_B21 {α : Type} (k : Nat) (code19 : List Int) (r0 : Bool → Option α) : Option α :=
  laws_FnSails_b21 spec_DrawAdjacentAngle impl_AdjacentAngle k code19 (fun fourteen code20 g g1 h h1 next => laws_FnSails_B22 k fourteen code20 g g1 h h1 next r0) r0
def laws_FnSails_B20 {α : Type} (k : Nat)  (r0 : Bool → Option α) : Option α :=
  laws_FnSails_b20 k r0
def laws_FnSails_B19 {α : Type} (k : Nat) (code18 : List Int) (r0 : Bool → Option α) : Option α :=
  laws_FnSails_b19 spec_DrawPlaceOnSail impl_PlaceOnSail spec_PlaceOnSail k code18 (laws_FnSails_B20 k r0) (fun code19 => laws_FnSails_B21 k code19 r0) r0
def laws_FnSails_B18 {α : Type} (k : Nat)  (r0 : Bool → Option α) : Option α :=
  laws_FnSails_b18 k r0
def laws_FnSails_B17 {α : Type} (k : Nat) (code17 : List Int) (p_10 : Int) (p_11 : Int) (split5 : List Int) (u : Int) (u1 : Int) (v45 : Int) (v46 : Int) (r0 : Bool → Option α) : Option α :=
  laws_FnSails_b17 k code17 p_10 p_11 split5 u u1 v45 v46 (laws_FnSails_B18 k r0) (fun code18 => laws_FnSails_B19 k code18 r0) r0
def laws_FnSails_B16 {α : Type} (k : Nat) (code16 : List Int) (p_8 : Int) (p_9 : Int) (split4 : List Int) (some_1 : List (Int × Int)) (r0 : Bool → Option α) : Option α :=
  laws_FnSails_b16 k code16 p_8 p_9 split4 some_1 (fun code17 p_10 p_11 split5 u u1 v45 v46 => laws_FnSails_B17 k code17 p_10 p_11 split5 u u1 v45 v46 r0) r0
def laws_FnSails_B15 {α : Type} (k : Nat)  (r0 : Bool → Option α) : Option α :=
  laws_FnSails_b15 k r0
def laws_FnSails_B14 {α : Type} (k : Nat) (eleven : Int) (code15 : List Int) (p_6 : Int) (p_7 : Int) (split3 : List Int) (some_ : List (Int × Int)) (r0 : Bool → Option α) : Option α :=
  laws_FnSails_b14 k eleven code15 p_6 p_7 split3 some_ (laws_FnSails_B15 k r0) (fun code16 p_8 p_9 split4 some_1 => laws_FnSails_B16 k code16 p_8 p_9 split4 some_1 r0) r0
def laws_FnSails_B13 {α : Type} (k : Nat) (nine2 : Int) (code14 : List Int) (c4 : Int) (c5 : Int) (d4 : Int) (d5 : Int) (p_4 : Int) (p_5 : Int) (split2 : List Int) (r0 : Bool → Option α) : Option α :=
  laws_FnSails_b13 impl_SailPoints k nine2 code14 c4 c5 d4 d5 p_4 p_5 split2 (fun eleven code15 p_6 p_7 split3 some_ => laws_FnSails_B14 k eleven code15 p_6 p_7 split3 some_ r0) (fun code18 => laws_FnSails_B19 k code18 r0) r0
def laws_FnSails_B12 {α : Type} (k : Nat)  (r0 : Bool → Option α) : Option α :=
  laws_FnSails_b12 k r0
def laws_FnSails_B11 {α : Type} (k : Nat) (nine1 : Int) (ten : Int) (code13 : List Int) (c2 : Int) (c3 : Int) (d2 : Int) (d3 : Int) (p_2 : Int) (p_3 : Int) (split1 : List Int) (due : List Int) (r0 : Bool → Option α) : Option α :=
  laws_FnSails_b11 laws_likeInts k nine1 ten code13 c2 c3 d2 d3 p_2 p_3 split1 due (laws_FnSails_B12 k r0) (fun nine2 code14 c4 c5 d4 d5 p_4 p_5 split2 => laws_FnSails_B13 k nine2 code14 c4 c5 d4 d5 p_4 p_5 split2 r0) r0
def laws_FnSails_B10 {α : Type} (k : Nat) (nine : Int) (code12 : List Int) (c : Int) (c1 : Int) (d : Int) (d1 : Int) (p_ : Int) (p_1 : Int) (split : List Int) (r0 : Bool → Option α) : Option α :=
  laws_FnSails_b10 spec_SplitPoint k nine code12 c c1 d d1 p_ p_1 split (fun nine1 ten code13 c2 c3 d2 d3 p_2 p_3 split1 due => laws_FnSails_B11 k nine1 ten code13 c2 c3 d2 d3 p_2 p_3 split1 due r0) r0
def laws_FnSails_B9 {α : Type} (k : Nat) (code11 : List Int) (r0 : Bool → Option α) : Option α :=
  laws_FnSails_b9 spec_DrawSplitPoint impl_SplitPoint k code11 (fun nine code12 c c1 d d1 p_ p_1 split => laws_FnSails_B10 k nine code12 c c1 d d1 p_ p_1 split r0) r0
def laws_FnSails_B8 {α : Type} (k : Nat) (code6 : List Int) (a10 : Int) (a11 : Int) (b_10 : Int) (b_11 : Int) (points5 : List (Int × Int)) (vertices2 : List (Int × Int)) (lengths1 : List Int) (r0 : Bool → Option α) : Option α :=
  laws_FnSails_b8 laws_FnSails_l15 laws_FnSails_l22 k code6 a10 a11 b_10 b_11 points5 vertices2 lengths1 (fun code11 => laws_FnSails_B9 k code11 r0) r0
def laws_FnSails_B7 {α : Type} (k : Nat)  (r0 : Bool → Option α) : Option α :=
  laws_FnSails_b7 k r0
def laws_FnSails_B6 {α : Type} (k : Nat) (below1 : Int) (three1 : Int) (four1 : Int) (five : Int) (code5 : List Int) (a8 : Int) (a9 : Int) (b_8 : Int) (b_9 : Int) (points4 : List (Int × Int)) (vertices1 : List (Int × Int)) (lengths : List Int) (r0 : Bool → Option α) : Option α :=
  laws_FnSails_b6 laws_sum k below1 three1 four1 five code5 a8 a9 b_8 b_9 points4 vertices1 lengths (laws_FnSails_B7 k r0) (fun code6 a10 a11 b_10 b_11 points5 vertices2 lengths1 => laws_FnSails_B8 k code6 a10 a11 b_10 b_11 points5 vertices2 lengths1 r0) r0
def laws_FnSails_B5 {α : Type} (k : Nat) (below : Int) (three : Int) (four : Int) (code4 : List Int) (a6 : Int) (a7 : Int) (b_6 : Int) (b_7 : Int) (points3 : List (Int × Int)) (vertices : List (Int × Int)) (r0 : Bool → Option α) : Option α :=
  laws_FnSails_b5 impl_SailLengths k below three four code4 a6 a7 b_6 b_7 points3 vertices (fun below1 three1 four1 five code5 a8 a9 b_8 b_9 points4 vertices1 lengths => laws_FnSails_B6 k below1 three1 four1 five code5 a8 a9 b_8 b_9 points4 vertices1 lengths r0) r0
def laws_FnSails_B4 {α : Type} (k : Nat) (one2 : Int) (code3 : List Int) (a4 : Int) (a5 : Int) (b_4 : Int) (b_5 : Int) (points2 : List (Int × Int)) (r0 : Bool → Option α) : Option α :=
  laws_FnSails_b4 impl_AreaBelow impl_SailVertices k one2 code3 a4 a5 b_4 b_5 points2 (fun below three four code4 a6 a7 b_6 b_7 points3 vertices => laws_FnSails_B5 k below three four code4 a6 a7 b_6 b_7 points3 vertices r0) (fun code11 => laws_FnSails_B9 k code11 r0) r0
def laws_FnSails_B3 {α : Type} (k : Nat)  (r0 : Bool → Option α) : Option α :=
  laws_FnSails_b3 k r0
def laws_FnSails_B2 {α : Type} (k : Nat) (one1 : Int) (two : Int) (code2 : List Int) (a2 : Int) (a3 : Int) (b_2 : Int) (b_3 : Int) (points1 : List (Int × Int)) (want : List (Int × Int)) (r0 : Bool → Option α) : Option α :=
  laws_FnSails_b2 impl_IsAngle spec_IsAngle laws_points5 k one1 two code2 a2 a3 b_2 b_3 points1 want (laws_FnSails_B3 k r0) (fun one2 code3 a4 a5 b_4 b_5 points2 => laws_FnSails_B4 k one2 code3 a4 a5 b_4 b_5 points2 r0) r0
def laws_FnSails_B1 {α : Type} (k : Nat) (one : Int) (code1 : List Int) (a : Int) (a1 : Int) (b_ : Int) (b_1 : Int) (points : List (Int × Int)) (r0 : Bool → Option α) : Option α :=
  laws_FnSails_b1 spec_SailPoints k one code1 a a1 b_ b_1 points (fun one1 two code2 a2 a3 b_2 b_3 points1 want => laws_FnSails_B2 k one1 two code2 a2 a3 b_2 b_3 points1 want r0) r0
def laws_FnSails_B0 {α : Type} (k : Nat) (code : List Int) (r0 : Bool → Option α) : Option α :=
  laws_FnSails_b0 laws_big spec_DrawSailPoints impl_SailPoints k code (fun one code1 a a1 b_ b_1 points => laws_FnSails_B1 k one code1 a a1 b_ b_1 points r0) r0
def laws_FnSails {α : Type} (k : Nat) (code : List Int) (r0 : Bool → Option α) : Option α := laws_FnSails_B0 k code r0

end Go.Sh
