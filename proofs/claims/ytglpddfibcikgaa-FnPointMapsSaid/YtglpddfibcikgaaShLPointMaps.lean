/- The program's functions, read without memory: printed by a program of ours. -/
import Derived.Test.YtglpddfibcikgaaMaB
namespace Go.Sh
open Go Go.Ev

/-- loop.example/g01297/laws.big -/
def laws_big {α : Type} (k : Nat) (code : List Int) (r0 : Bool → Option α) : Option α :=
  r0 (decide (4096 < (((List.length code) : Nat) : Int)))

def spec_l01From_l3 {α : Type} : Nat → Int → List Int → Int → Int → (Int → List Int → Int → Int → Option α) → (Int → Int → Option α) → Option α
  | 0, _, _, _, _, _, _ => none
  | k + 1, i, code1, s, s1, b0, r0 =>
    bif decide (i < (((List.length code1) : Nat) : Int)) then
      bif decide (i < 4096) then
        bif (decide (0 ≤ i) && decide (i < (((List.length code1) : Nat) : Int))) then
          (code1[i.toNat]?).bind fun e_ =>
          spec_l01From_l3 k (w64 (i + 1)) code1 s (IntKind.wrap .u64 ((IntKind.wrap .u64 ((IntKind.wrap .u64 (s1 * 1099511628211)) + (IntKind.wrap .u64 e_))) + 107)) b0 r0
        else
          none
      else
        b0 i code1 s s1
    else
      b0 i code1 s s1

/-- loop.example/g01297/spec.l01From -/
def spec_l01From {α : Type} (k : Nat) (code : List Int) (r0 : Int → Int → Option α) : Option α :=
  spec_l01From_l3 k 0 code 0 (IntKind.wrap .u64 (12971 + (IntKind.wrap .u64 (((List.length code) : Nat) : Int))))
    (fun _ _ s2 s3 =>
      r0 s2 s3)
    r0

/-- loop.example/g01297/spec.l01Next -/
def spec_l01Next {α : Type} (k : Nat) (s : List Int) (s1 : Int) (s2 : Int) (n_ : Int) (r0 : Int → Int → Int → Option α) : Option α :=
  bif decide (n_ < 1) then
    r0 0 s1 s2
  else
  bif decide (s1 < (((List.length s) : Nat) : Int)) then
    bif (decide (0 ≤ s1) && decide (s1 < (((List.length s) : Nat) : Int))) then
      (s[s1.toNat]?).bind fun e_ =>
      bif decide (n_ = 0) then
        none
      else
        r0 (Int.tmod (w64 ((w64 (IntKind.wrap .u64 ((BitVec.ofInt 64 (Int.fdiv (IntKind.wrap .u64 ((IntKind.wrap .u64 (s2 * 6364136223846793005)) + 1442695040888963407)) (2 ^ 31)) &&& BitVec.ofInt 64 1073741823).toNat))) + (w64 e_))) n_) (w64 (s1 + 1)) (IntKind.wrap .u64 ((IntKind.wrap .u64 (s2 * 6364136223846793005)) + 1442695040888963407))
    else
      none
  else
  bif decide (n_ = 0) then
    none
  else
    r0 (Int.tmod (w64 (IntKind.wrap .u64 ((BitVec.ofInt 64 (Int.fdiv (IntKind.wrap .u64 ((IntKind.wrap .u64 (s2 * 6364136223846793005)) + 1442695040888963407)) (2 ^ 31)) &&& BitVec.ofInt 64 1073741823).toNat))) n_) s1 (IntKind.wrap .u64 ((IntKind.wrap .u64 (s2 * 6364136223846793005)) + 1442695040888963407))

/-- loop.example/g01297/spec.l01Times -/
def spec_l01Times {α : Type} (k : Nat) (m : Int) (m1 : Int) (m2 : Int) (m3 : Int) (n_ : Int) (n_1 : Int) (n_2 : Int) (n_3 : Int) (r0 : Int → Int → Int → Int → Option α) : Option α :=
  r0 (w64 ((w64 (m * n_)) + (w64 (m1 * n_2)))) (w64 ((w64 (m * n_1)) + (w64 (m1 * n_3)))) (w64 ((w64 (m2 * n_)) + (w64 (m3 * n_2)))) (w64 ((w64 (m2 * n_1)) + (w64 (m3 * n_3))))

def spec_l01DrawUnit_l3 {α : Type} : Nat → Int → Int → Int → Int → Int → Int → Int → Int → Int → Int → Int → List Int → (Int → Int → Int → Int → Int → Int → Int → Int → Int → Int → Int → List Int → Option α) → (Int → Int → Int → Int → Int → Int → Option α) → Option α
  | 0, _, _, _, _, _, _, _, _, _, _, _, _, _, _ => none
  | k + 1, n_, s3, s4, x, x1, x2, x3, out, out1, out2, out3, b_, b0, r0 =>
    bif decide (0 < n_) then
      spec_l01Next k b_ s3 s4 7 fun v3 v4 v5 =>
      spec_l01Next k b_ v4 v5 3 fun v6 v7 v8 =>
      bif decide (v6 = 0) then
        spec_l01Times k out out1 out2 out3 1 (w64 (v3 - 3)) 0 1 fun v9 v10 v11 v12 =>
        spec_l01DrawUnit_l3 k (w64 (n_ - 1)) v7 v8 x x1 x2 x3 v9 v10 v11 v12 b_ b0 r0
      else
      bif decide (v6 = 1) then
        spec_l01Times k out out1 out2 out3 1 0 (w64 (v3 - 3)) 1 fun v13 v14 v15 v16 =>
        spec_l01DrawUnit_l3 k (w64 (n_ - 1)) v7 v8 x x1 x2 x3 v13 v14 v15 v16 b_ b0 r0
      else
        spec_l01Times k out out1 out2 out3 0 1 1 0 fun v17 v18 v19 v20 =>
        spec_l01DrawUnit_l3 k (w64 (n_ - 1)) v7 v8 x x1 x2 x3 v17 v18 v19 v20 b_ b0 r0
    else
      b0 n_ s3 s4 x x1 x2 x3 out out1 out2 out3 b_

/-- loop.example/g01297/spec.l01DrawUnit -/
def spec_l01DrawUnit {α : Type} (k : Nat) (s : List Int) (s1 : Int) (s2 : Int) (r0 : Int → Int → Int → Int → Int → Int → Option α) : Option α :=
  spec_l01Next k s s1 s2 5 fun v v1 v2 =>
  spec_l01DrawUnit_l3 k v v1 v2 0 0 0 0 1 0 0 1 s
    (fun _ s5 s6 _ _ _ _ out4 out5 out6 out7 _ =>
      r0 out4 out5 out6 out7 s5 s6)
    r0

/-- loop.example/g01297/spec.l01Pick -/
def spec_l01Pick {α : Type} (k : Nat) (s : List Int) (s1 : Int) (s2 : Int) (list : List Int) (r0 : Int → Int → Int → Option α) : Option α :=
  spec_l01Next k s s1 s2 (((List.length list) : Nat) : Int) fun v v1 v2 =>
  bif (decide (0 ≤ v) && decide (v < (((List.length list) : Nat) : Int))) then
    (list[v.toNat]?).bind fun e_ =>
    r0 e_ v1 v2
  else
    none

/-- loop.example/g01297/spec.l01Size -/
def spec_l01Size {α : Type} (k : Nat) (s : List Int) (s1 : Int) (s2 : Int) (r0 : Int → Int → Int → Option α) : Option α :=
  spec_l01Pick k s s1 s2 [3, 6, 12, 100, 1000, 1000000] fun v v1 v2 =>
  r0 v v1 v2

/-- loop.example/g01297/spec.l01DrawPoint -/
def spec_l01DrawPoint {α : Type} (k : Nat) (s : List Int) (s1 : Int) (s2 : Int) (most : Int) (r0 : Int → Int → Int → Int → Option α) : Option α :=
  spec_l01Next k s s1 s2 (w64 ((w64 (2 * most)) + 1)) fun v v1 v2 =>
  spec_l01Next k s v1 v2 (w64 ((w64 (2 * most)) + 1)) fun v3 v4 v5 =>
  r0 (w64 (v - most)) (w64 (v3 - most)) v4 v5

/-- loop.example/g01297/spec.l01AnyMatrix -/
def spec_l01AnyMatrix {α : Type} (k : Nat) (s : List Int) (s1 : Int) (s2 : Int) (r0 : Int → Int → Int → Int → Int → Int → Option α) : Option α :=
  spec_l01DrawUnit k s s1 s2 fun v v1 v2 v3 v4 v5 =>
  spec_l01Next k s v4 v5 3 fun v6 v7 v8 =>
  bif decide (v6 = 0) then
    spec_l01Size k s v7 v8 fun v9 v10 v11 =>
    spec_l01DrawPoint k s v10 v11 v9 fun v12 v13 v14 v15 =>
    spec_l01Size k s v14 v15 fun v16 v17 v18 =>
    spec_l01DrawPoint k s v17 v18 v16 fun v19 v20 v21 v22 =>
    spec_l01Next k s v21 v22 40 fun v23 v24 v25 =>
    bif decide (v23 = 0) then
      spec_l01Next k s v24 v25 2 fun v26 v27 v28 =>
      bif (decide (0 ≤ v26) && decide (v26 < 2)) then
        spec_l01Next k s v27 v28 2 fun v29 v30 v31 =>
        spec_l01Pick k s v30 v31 [1000001, (-1099511627776)] fun v32 v33 v34 =>
        bif (decide (0 ≤ v29) && decide (v29 < 2)) then
          ([v12, v13, v19, v20][(moved (v26.toNat * 2) v29.toNat 1)]?).bind fun _ =>
          ((List.set [v12, v13, v19, v20] (moved (v26.toNat * 2) v29.toNat 1) v32)[0]?).bind fun e_ =>
          ((List.set [v12, v13, v19, v20] (moved (v26.toNat * 2) v29.toNat 1) v32)[1]?).bind fun e_1 =>
          ((List.set [v12, v13, v19, v20] (moved (v26.toNat * 2) v29.toNat 1) v32)[2]?).bind fun e_2 =>
          ((List.set [v12, v13, v19, v20] (moved (v26.toNat * 2) v29.toNat 1) v32)[3]?).bind fun e_3 =>
          r0 e_ e_1 e_2 e_3 v33 v34
        else
          none
      else
        none
    else
      r0 v12 v13 v19 v20 v24 v25
  else
    spec_l01Next k s v7 v8 40 fun v35 v36 v37 =>
    bif decide (v35 = 0) then
      spec_l01Next k s v36 v37 2 fun v38 v39 v40 =>
      bif (decide (0 ≤ v38) && decide (v38 < 2)) then
        spec_l01Next k s v39 v40 2 fun v41 v42 v43 =>
        spec_l01Pick k s v42 v43 [1000001, (-1099511627776)] fun v44 v45 v46 =>
        bif (decide (0 ≤ v41) && decide (v41 < 2)) then
          ([v, v1, v2, v3][(moved (v38.toNat * 2) v41.toNat 1)]?).bind fun _ =>
          ((List.set [v, v1, v2, v3] (moved (v38.toNat * 2) v41.toNat 1) v44)[0]?).bind fun e_4 =>
          ((List.set [v, v1, v2, v3] (moved (v38.toNat * 2) v41.toNat 1) v44)[1]?).bind fun e_5 =>
          ((List.set [v, v1, v2, v3] (moved (v38.toNat * 2) v41.toNat 1) v44)[2]?).bind fun e_6 =>
          ((List.set [v, v1, v2, v3] (moved (v38.toNat * 2) v41.toNat 1) v44)[3]?).bind fun e_7 =>
          r0 e_4 e_5 e_6 e_7 v45 v46
        else
          none
      else
        none
    else
      r0 v v1 v2 v3 v36 v37

/-- loop.example/g01297/spec.DrawInverseMatrix -/
def spec_DrawInverseMatrix {α : Type} (k : Nat) (code : List Int) (r0 : Int → Int → Int → Int → Option α) : Option α :=
  spec_l01From k code fun v v1 =>
  spec_l01AnyMatrix k code v v1 fun v2 v3 v4 v5 _ _ =>
  r0 v2 v3 v4 v5

/-- loop.example/g01297/impl.in -/
def impl_in {α : Type} (k : Nat) (n_ : Int) (low : Int) (high : Int) (r0 : Bool → Option α) : Option α :=
  bif decide (low ≤ n_) then
    r0 (decide (n_ ≤ high))
  else
    r0 false

/-- loop.example/g01297/impl.isCoord -/
def impl_isCoord {α : Type} (k : Nat) (n_ : Int) (r0 : Bool → Option α) : Option α :=
  impl_in k n_ (-1000000) 1000000 fun v =>
  r0 v

/-- loop.example/g01297/impl.IsPoint -/
def impl_IsPoint {α : Type} (k : Nat) (a : Int) (a1 : Int) (r0 : Bool → Option α) : Option α :=
  impl_isCoord k a fun v =>
  bif v then
    impl_isCoord k a1 fun v1 =>
    r0 v1
  else
    r0 false

/-- loop.example/g01297/impl.points$1 -/
def impl_points_1 {α : Type} (k : Nat) (a : Int) (a1 : Int) (r0 : Bool → Option α) : Option α :=
  impl_IsPoint k a a1 fun v =>
  r0 (!v)

def slices_IndexFunc_impl_Point_impl_Point_1F_impl_points_1_l2 {α : Type} : Nat → Int → Int → (List (Int × Int)) → (Int → Int → (List (Int × Int)) → Option α) → (Int → Option α) → Option α
  | 0, _, _, _, _, _ => none
  | k + 1, x, x1, s1, b0, r0 =>
    bif decide (x1 < x) then
      bif (decide (0 ≤ x1) && decide (x1 < (((List.length s1) : Nat) : Int))) then
        (s1[x1.toNat]?).bind fun e_ =>
        impl_points_1 k e_.1 e_.2 fun v =>
        bif v then
          r0 x1
        else
          slices_IndexFunc_impl_Point_impl_Point_1F_impl_points_1_l2 k x (w64 (x1 + 1)) s1 b0 r0
      else
        none
    else
      b0 x x1 s1

/-- slices.IndexFunc[[]loop.example/g01297/impl.Point,loop.example/g01297/impl.Point] -/
def slices_IndexFunc_impl_Point_impl_Point_1F_impl_points_1 {α : Type} (k : Nat) (s : List (Int × Int)) (r0 : Int → Option α) : Option α :=
  slices_IndexFunc_impl_Point_impl_Point_1F_impl_points_1_l2 k (((List.length s) : Nat) : Int) 0 s
    (fun _ _ _ =>
      r0 (-1))
    r0

/-- slices.ContainsFunc[[]loop.example/g01297/impl.Point,loop.example/g01297/impl.Point] -/
def slices_ContainsFunc_impl_Point_impl_Point_1F_impl_points_1 {α : Type} (k : Nat) (s : List (Int × Int)) (r0 : Bool → Option α) : Option α :=
  slices_IndexFunc_impl_Point_impl_Point_1F_impl_points_1 k s fun v =>
  r0 (decide (0 ≤ v))

/-- loop.example/g01297/impl.points -/
def impl_points {α : Type} (k : Nat) (list : List (Int × Int)) (r0 : Bool → Option α) : Option α :=
  slices_ContainsFunc_impl_Point_impl_Point_1F_impl_points_1 k list fun v =>
  r0 (!v)

/-- loop.example/g01297/impl.IsMatrix -/
def impl_IsMatrix {α : Type} (k : Nat) (m : Int) (m1 : Int) (m2 : Int) (m3 : Int) (r0 : Bool → Option α) : Option α :=
  impl_points k [(m, m1), (m2, m3)] fun v =>
  r0 v

/-- loop.example/g01297/impl.det -/
def impl_det {α : Type} (k : Nat) (a : Int) (a1 : Int) (b_ : Int) (b_1 : Int) (r0 : Int → Option α) : Option α :=
  r0 (w64 ((w64 (a * b_1)) - (w64 (a1 * b_))))

/-- (loop.example/g01297/impl.Matrix).det -/
def impl_Matrix_det {α : Type} (k : Nat) (m : Int) (m1 : Int) (m2 : Int) (m3 : Int) (r0 : Int → Option α) : Option α :=
  impl_det k m m1 m2 m3 fun v =>
  r0 v

/-- loop.example/g01297/impl.size -/
def impl_size {α : Type} (k : Nat) (n_ : Int) (r0 : Int → Option α) : Option α :=
  r0 (max n_ (w64 (0 - n_)))

/-- (loop.example/g01297/impl.Matrix).unimodular -/
def impl_Matrix_unimodular {α : Type} (k : Nat) (m : Int) (m1 : Int) (m2 : Int) (m3 : Int) (r0 : Bool → Option α) : Option α :=
  impl_Matrix_det k m m1 m2 m3 fun v =>
  impl_size k v fun v1 =>
  r0 (decide (v1 = 1))

/-- (loop.example/g01297/impl.Matrix).inverse -/
def impl_Matrix_inverse {α : Type} (k : Nat) (m : Int) (m1 : Int) (m2 : Int) (m3 : Int) (r0 : Int → Int → Int → Int → Option α) : Option α :=
  impl_Matrix_det k m m1 m2 m3 fun v =>
  r0 (w64 (v * m3)) (w64 ((w64 (0 - v)) * m1)) (w64 ((w64 (0 - v)) * m2)) (w64 (v * m))

/-- (loop.example/g01297/impl.Matrix).told -/
def impl_Matrix_told {α : Type} (k : Nat) (m : Int) (m1 : Int) (m2 : Int) (m3 : Int) (r0 : Int → Int → Int → Int → Int → Option α) : Option α :=
  impl_IsMatrix k m m1 m2 m3 fun v =>
  bif (!v) then
    r0 0 0 0 0 3
  else
    r0 m m1 m2 m3 0

/-- loop.example/g01297/impl.InverseMatrix -/
def impl_InverseMatrix {α : Type} (k : Nat) (m : Int) (m1 : Int) (m2 : Int) (m3 : Int) (r0 : Int → Int → Int → Int → Int → Option α) : Option α :=
  impl_IsMatrix k m m1 m2 m3 fun v =>
  bif (!v) then
    r0 0 0 0 0 1
  else
    impl_Matrix_unimodular k m m1 m2 m3 fun v1 =>
    bif (!v1) then
      r0 0 0 0 0 5
    else
      impl_Matrix_inverse k m m1 m2 m3 fun v2 v3 v4 v5 =>
      impl_Matrix_told k v2 v3 v4 v5 fun v6 v7 v8 v9 v10 =>
      r0 v6 v7 v8 v9 v10

/-- loop.example/g01297/spec.l01In -/
def spec_l01In {α : Type} (k : Nat) (n_ : Int) (low : Int) (high : Int) (r0 : Bool → Option α) : Option α :=
  bif decide (low ≤ n_) then
    r0 (decide (n_ ≤ high))
  else
    r0 false

/-- loop.example/g01297/spec.l01Fits -/
def spec_l01Fits {α : Type} (k : Nat) (x : Int) (r0 : Bool → Option α) : Option α :=
  spec_l01In k x (-1000000) 1000000 fun v =>
  r0 v

/-- loop.example/g01297/spec.l01Matrix -/
def spec_l01Matrix {α : Type} (k : Nat) (m : Int) (m1 : Int) (m2 : Int) (m3 : Int) (r0 : Bool → Option α) : Option α :=
  spec_l01Fits k m fun v =>
  bif v then
    spec_l01Fits k m1 fun v1 =>
    bif v1 then
      spec_l01Fits k m2 fun v2 =>
      bif v2 then
        spec_l01Fits k m3 fun v3 =>
        r0 v3
      else
        r0 false
    else
      r0 false
  else
    r0 false

/-- loop.example/g01297/spec.l01DetOf -/
def spec_l01DetOf {α : Type} (k : Nat) (m : Int) (m1 : Int) (m2 : Int) (m3 : Int) (r0 : Int → Option α) : Option α :=
  r0 (w64 ((w64 (m * m3)) - (w64 (m1 * m2))))

/-- loop.example/g01297/spec.l01Unit -/
def spec_l01Unit {α : Type} (k : Nat) (m : Int) (m1 : Int) (m2 : Int) (m3 : Int) (r0 : Bool → Option α) : Option α :=
  spec_l01DetOf k m m1 m2 m3 fun v =>
  bif decide (v = 1) then
    r0 true
  else
    r0 (decide (v = (-1)))

/-- loop.example/g01297/spec.l01Minus -/
def spec_l01Minus {α : Type} (k : Nat) (m : Int) (m1 : Int) (m2 : Int) (m3 : Int) (r0 : Int → Int → Int → Int → Option α) : Option α :=
  spec_l01DetOf k m m1 m2 m3 fun v =>
  r0 (w64 (v * m3)) (w64 ((w64 (0 - v)) * m1)) (w64 ((w64 (0 - v)) * m2)) (w64 (v * m))

/-- loop.example/g01297/spec.InverseMatrix -/
def spec_InverseMatrix {α : Type} (k : Nat) (m : Int) (m1 : Int) (m2 : Int) (m3 : Int) (r0 : Int → Int → Int → Int → Int → Option α) : Option α :=
  spec_l01Matrix k m m1 m2 m3 fun v =>
  bif (!v) then
    r0 0 0 0 0 1
  else
    spec_l01Unit k m m1 m2 m3 fun v1 =>
    bif (!v1) then
      r0 0 0 0 0 5
    else
      spec_l01Minus k m m1 m2 m3 fun v2 v3 v4 v5 =>
      r0 v2 v3 v4 v5 0

/-- loop.example/g01297/spec.l01Bad -/
def spec_l01Bad {α : Type} (k : Nat) (s : List Int) (s1 : Int) (s2 : Int) (a : Int) (a1 : Int) (r0 : Int → Int → Int → Int → Option α) : Option α :=
  spec_l01Next k s s1 s2 40 fun v v1 v2 =>
  bif decide (v = 0) then
    spec_l01Next k s v1 v2 2 fun v3 v4 v5 =>
    spec_l01Pick k s v4 v5 [1000001, (-1000001), 1099511627776] fun v6 v7 v8 =>
    bif (decide (0 ≤ v3) && decide (v3 < 2)) then
      ([a, a1][v3.toNat]?).bind fun _ =>
      ((List.set [a, a1] v3.toNat v6)[0]?).bind fun e_ =>
      ((List.set [a, a1] v3.toNat v6)[1]?).bind fun e_1 =>
      r0 e_ e_1 v7 v8
    else
      none
  else
    r0 a a1 v1 v2

/-- loop.example/g01297/spec.l01Spoil -/
def spec_l01Spoil {α : Type} (k : Nat) (s : List Int) (s1 : Int) (s2 : Int) (r0 : Int → Int → Int → Int → Option α) : Option α :=
  spec_l01Size k s s1 s2 fun v v1 v2 =>
  spec_l01DrawPoint k s v1 v2 v fun v3 v4 v5 v6 =>
  spec_l01Bad k s v5 v6 v3 v4 fun v7 v8 v9 v10 =>
  r0 v7 v8 v9 v10

/-- loop.example/g01297/spec.DrawAreaOf -/
def spec_DrawAreaOf {α : Type} (k : Nat) (code : List Int) (r0 : Int → Int → Int → Int → Int → Int → Option α) : Option α :=
  spec_l01From k code fun v v1 =>
  spec_l01Spoil k code v v1 fun v2 v3 v4 v5 =>
  spec_l01Spoil k code v4 v5 fun v6 v7 v8 v9 =>
  spec_l01Spoil k code v8 v9 fun v10 v11 _ _ =>
  r0 v2 v3 v6 v7 v10 v11

/-- (loop.example/g01297/impl.Point).plus -/
def impl_Point_plus {α : Type} (k : Nat) (a : Int) (a1 : Int) (b_ : Int) (b_1 : Int) (k_ : Int) (r0 : Int → Int → Option α) : Option α :=
  r0 (w64 (a + (w64 (k_ * b_)))) (w64 (a1 + (w64 (k_ * b_1))))

/-- (loop.example/g01297/impl.Point).less -/
def impl_Point_less {α : Type} (k : Nat) (a : Int) (a1 : Int) (b_ : Int) (b_1 : Int) (r0 : Int → Int → Option α) : Option α :=
  impl_Point_plus k a a1 b_ b_1 (-1) fun v v1 =>
  r0 v v1

/-- loop.example/g01297/impl.area -/
def impl_area {α : Type} (k : Nat) (a : Int) (a1 : Int) (b_ : Int) (b_1 : Int) (c : Int) (c1 : Int) (r0 : Int → Option α) : Option α :=
  impl_Point_less k b_ b_1 a a1 fun v v1 =>
  impl_Point_less k c c1 a a1 fun v2 v3 =>
  impl_det k v v1 v2 v3 fun v4 =>
  impl_size k v4 fun v5 =>
  r0 v5

/-- loop.example/g01297/impl.AreaOf -/
def impl_AreaOf {α : Type} (k : Nat) (a : Int) (a1 : Int) (b_ : Int) (b_1 : Int) (c : Int) (c1 : Int) (r0 : Int → Int → Option α) : Option α :=
  impl_points k [(a, a1), (b_, b_1), (c, c1)] fun v =>
  bif (!v) then
    r0 0 1
  else
    impl_area k a a1 b_ b_1 c c1 fun v1 =>
    r0 v1 0

/-- loop.example/g01297/spec.l01Is -/
def spec_l01Is {α : Type} (k : Nat) (a : Int) (a1 : Int) (r0 : Bool → Option α) : Option α :=
  spec_l01Fits k a fun v =>
  bif v then
    spec_l01Fits k a1 fun v1 =>
    r0 v1
  else
    r0 false

def spec_l01Code_l2 {α : Type} : Nat → Int → (List (Int × Int)) → (Int → (List (Int × Int)) → Option α) → (Int → Option α) → Option α
  | 0, _, _, _, _ => none
  | k + 1, i, list1, b0, r0 =>
    bif decide (i < (((List.length list1) : Nat) : Int)) then
      bif (decide (0 ≤ i) && decide (i < (((List.length list1) : Nat) : Int))) then
        (list1[i.toNat]?).bind fun e_ =>
        spec_l01Is k e_.1 e_.2 fun v =>
        bif (!v) then
          r0 1
        else
          spec_l01Code_l2 k (w64 (i + 1)) list1 b0 r0
      else
        none
    else
      b0 i list1

/-- loop.example/g01297/spec.l01Code -/
def spec_l01Code {α : Type} (k : Nat) (list : List (Int × Int)) (r0 : Int → Option α) : Option α :=
  spec_l01Code_l2 k 0 list
    (fun _ _ =>
      r0 0)
    r0

/-- loop.example/g01297/spec.l01Plus -/
def spec_l01Plus {α : Type} (k : Nat) (a : Int) (a1 : Int) (b_ : Int) (b_1 : Int) (k_ : Int) (r0 : Int → Int → Option α) : Option α :=
  r0 (w64 (a + (w64 (k_ * b_)))) (w64 (a1 + (w64 (k_ * b_1))))

/-- loop.example/g01297/spec.l01Det -/
def spec_l01Det {α : Type} (k : Nat) (a : Int) (a1 : Int) (b_ : Int) (b_1 : Int) (r0 : Int → Option α) : Option α :=
  r0 (w64 ((w64 (a * b_1)) - (w64 (a1 * b_))))

/-- loop.example/g01297/spec.l01Area -/
def spec_l01Area {α : Type} (k : Nat) (a : Int) (a1 : Int) (b_ : Int) (b_1 : Int) (c : Int) (c1 : Int) (r0 : Int → Option α) : Option α :=
  spec_l01Plus k b_ b_1 a a1 (-1) fun v v1 =>
  spec_l01Plus k c c1 a a1 (-1) fun v2 v3 =>
  spec_l01Det k v v1 v2 v3 fun v4 =>
  r0 (max v4 (w64 (0 - v4)))

/-- loop.example/g01297/spec.AreaOf -/
def spec_AreaOf {α : Type} (k : Nat) (a : Int) (a1 : Int) (b_ : Int) (b_1 : Int) (c : Int) (c1 : Int) (r0 : Int → Int → Option α) : Option α :=
  spec_l01Code k [(a, a1), (b_, b_1), (c, c1)] fun v =>
  bif (!decide (v = 0)) then
    r0 0 v
  else
    spec_l01Area k a a1 b_ b_1 c c1 fun v1 =>
    r0 v1 0

/-- loop.example/g01297/spec.IsMatrix -/
def spec_IsMatrix {α : Type} (k : Nat) (m : Int) (m1 : Int) (m2 : Int) (m3 : Int) (r0 : Bool → Option α) : Option α :=
  spec_l01Matrix k m m1 m2 m3 fun v =>
  r0 v

/-- (loop.example/g01297/impl.Matrix).column -/
def impl_Matrix_column {α : Type} (k : Nat) (m : Int) (m1 : Int) (m2 : Int) (m3 : Int) (k_ : Int) (r0 : Int → Int → Option α) : Option α :=
  bif (decide (0 ≤ k_) && decide (k_ < 2)) then
    ([m, m1, m2, m3][k_.toNat]?).bind fun e_ =>
    bif (decide (0 ≤ k_) && decide (k_ < 2)) then
      ([m, m1, m2, m3][(2 + k_.toNat * 1)]?).bind fun e_1 =>
      r0 e_ e_1
    else
      none
  else
    none

/-- (loop.example/g01297/impl.Matrix).apply -/
def impl_Matrix_apply {α : Type} (k : Nat) (m : Int) (m1 : Int) (m2 : Int) (m3 : Int) (a : Int) (a1 : Int) (r0 : Int → Int → Option α) : Option α :=
  r0 (w64 ((w64 (m * a)) + (w64 (m1 * a1)))) (w64 ((w64 (m2 * a)) + (w64 (m3 * a1))))

/-- (loop.example/g01297/impl.Matrix).times -/
def impl_Matrix_times {α : Type} (k : Nat) (m : Int) (m1 : Int) (m2 : Int) (m3 : Int) (n_ : Int) (n_1 : Int) (n_2 : Int) (n_3 : Int) (r0 : Int → Int → Int → Int → Option α) : Option α :=
  impl_Matrix_column k n_ n_1 n_2 n_3 0 fun v v1 =>
  impl_Matrix_apply k m m1 m2 m3 v v1 fun v2 v3 =>
  impl_Matrix_column k n_ n_1 n_2 n_3 1 fun v4 v5 =>
  impl_Matrix_apply k m m1 m2 m3 v4 v5 fun v6 v7 =>
  r0 v2 v6 v3 v7

/-- loop.example/g01297/impl.MultiplyMatrices -/
def impl_MultiplyMatrices {α : Type} (k : Nat) (m : Int) (m1 : Int) (m2 : Int) (m3 : Int) (n_ : Int) (n_1 : Int) (n_2 : Int) (n_3 : Int) (r0 : Int → Int → Int → Int → Int → Option α) : Option α :=
  impl_IsMatrix k m m1 m2 m3 fun v =>
  bif (!v) then
    r0 0 0 0 0 1
  else
    impl_IsMatrix k n_ n_1 n_2 n_3 fun v1 =>
    bif (!v1) then
      r0 0 0 0 0 1
    else
      impl_Matrix_times k m m1 m2 m3 n_ n_1 n_2 n_3 fun v2 v3 v4 v5 =>
      impl_Matrix_told k v2 v3 v4 v5 fun v6 v7 v8 v9 v10 =>
      r0 v6 v7 v8 v9 v10

/-- (loop.example/g01297/impl.Point).told -/
def impl_Point_told {α : Type} (k : Nat) (a : Int) (a1 : Int) (r0 : Int → Int → Int → Option α) : Option α :=
  impl_IsPoint k a a1 fun v =>
  bif (!v) then
    r0 0 0 3
  else
    r0 a a1 0

/-- loop.example/g01297/impl.ApplyMatrix -/
def impl_ApplyMatrix {α : Type} (k : Nat) (m : Int) (m1 : Int) (m2 : Int) (m3 : Int) (a : Int) (a1 : Int) (r0 : Int → Int → Int → Option α) : Option α :=
  impl_IsMatrix k m m1 m2 m3 fun v =>
  bif (!v) then
    r0 0 0 1
  else
    impl_IsPoint k a a1 fun v1 =>
    bif (!v1) then
      r0 0 0 1
    else
      impl_Matrix_apply k m m1 m2 m3 a a1 fun v2 v3 =>
      impl_Point_told k v2 v3 fun v4 v5 v6 =>
      r0 v4 v5 v6

def impl_gcd_l1 {α : Type} : Nat → Int → Int → (Int → Int → Option α) → (Int → Option α) → Option α
  | 0, _, _, _, _ => none
  | k + 1, a1, b_1, b0, r0 =>
    bif (!decide (b_1 = 0)) then
      bif decide (b_1 = 0) then
        none
      else
        impl_gcd_l1 k b_1 (Int.tmod a1 b_1) b0 r0
    else
      b0 a1 b_1

/-- loop.example/g01297/impl.gcd -/
def impl_gcd {α : Type} (k : Nat) (a : Int) (b_ : Int) (r0 : Int → Option α) : Option α :=
  impl_gcd_l1 k a b_
    (fun a2 _ =>
      impl_size k a2 fun v =>
      r0 v)
    r0

/-- (loop.example/g01297/impl.Point).length -/
def impl_Point_length {α : Type} (k : Nat) (a : Int) (a1 : Int) (r0 : Int → Option α) : Option α :=
  impl_gcd k a a1 fun v =>
  r0 v

/-- loop.example/g01297/impl.LengthOf -/
def impl_LengthOf {α : Type} (k : Nat) (a : Int) (a1 : Int) (b_ : Int) (b_1 : Int) (r0 : Int → Int → Option α) : Option α :=
  impl_points k [(a, a1), (b_, b_1)] fun v =>
  bif (!v) then
    r0 0 1
  else
    impl_Point_less k b_ b_1 a a1 fun v1 v2 =>
    impl_Point_length k v1 v2 fun v3 =>
    r0 v3 0

def spec_l01Gcd_l1 {α : Type} : Nat → Int → Int → (Int → Int → Option α) → (Int → Option α) → Option α
  | 0, _, _, _, _ => none
  | k + 1, a1, b_1, b0, r0 =>
    bif (!decide (b_1 = 0)) then
      bif decide (b_1 = 0) then
        none
      else
        spec_l01Gcd_l1 k b_1 (Int.tmod a1 b_1) b0 r0
    else
      b0 a1 b_1

/-- loop.example/g01297/spec.l01Gcd -/
def spec_l01Gcd {α : Type} (k : Nat) (a : Int) (b_ : Int) (r0 : Int → Option α) : Option α :=
  spec_l01Gcd_l1 k a b_
    (fun a2 _ =>
      r0 (max a2 (w64 (0 - a2))))
    r0

/-- loop.example/g01297/spec.l01Part -/
def spec_l01Part {α : Type} (k : Nat) (a : Int) (a1 : Int) (r0 : Int → Int → Option α) : Option α :=
  spec_l01Gcd k a a1 fun v =>
  bif decide (v = 0) then
    none
  else
  bif decide (v = 0) then
    none
  else
    r0 (w64 (Int.tdiv a v)) (w64 (Int.tdiv a1 v))

/-- loop.example/g01297/spec.l01DrawPrimitive -/
def spec_l01DrawPrimitive {α : Type} (k : Nat) (s : List Int) (s1 : Int) (s2 : Int) (most : Int) (r0 : Int → Int → Int → Int → Option α) : Option α :=
  spec_l01DrawPoint k s s1 s2 most fun v v1 v2 v3 =>
  bif (decide (v = 0) && decide (v1 = 0)) then
    r0 1 0 v2 v3
  else
    spec_l01Part k v v1 fun v4 v5 =>
    r0 v4 v5 v2 v3

/-- loop.example/g01297/spec.DrawMateOf -/
def spec_DrawMateOf {α : Type} (k : Nat) (code : List Int) (r0 : Int → Int → Option α) : Option α :=
  spec_l01From k code fun v v1 =>
  spec_l01Next k code v v1 8 fun v2 v3 v4 =>
  bif decide (v2 = 0) then
    spec_l01Spoil k code v3 v4 fun v5 v6 _ _ =>
    r0 v5 v6
  else
    spec_l01Size k code v3 v4 fun v9 v10 v11 =>
    spec_l01DrawPrimitive k code v10 v11 v9 fun v12 v13 v14 v15 =>
    spec_l01Bad k code v14 v15 v12 v13 fun v16 v17 _ _ =>
    r0 v16 v17

/-- (loop.example/g01297/impl.Point).isPrimitive -/
def impl_Point_isPrimitive {α : Type} (k : Nat) (a : Int) (a1 : Int) (r0 : Bool → Option α) : Option α :=
  impl_Point_length k a a1 fun v =>
  r0 (decide (v = 1))

/-- loop.example/g01297/impl.floor -/
def impl_floor {α : Type} (k : Nat) (a : Int) (b_ : Int) (r0 : Int → Option α) : Option α :=
  bif decide (b_ = 0) then
    none
  else
  bif decide (b_ = 0) then
    none
  else
  bif (!decide ((Int.tmod a b_) = 0)) then
    bif (!(decide (a < 0) == decide (b_ < 0))) then
      r0 (w64 ((w64 (Int.tdiv a b_)) - 1))
    else
      r0 (w64 (Int.tdiv a b_))
  else
    r0 (w64 (Int.tdiv a b_))

/-- loop.example/g01297/impl.mod -/
def impl_mod {α : Type} (k : Nat) (a : Int) (b_ : Int) (r0 : Int → Option α) : Option α :=
  impl_floor k a b_ fun v =>
  r0 (w64 (a - (w64 (b_ * v))))

def impl_bezout_l2 {α : Type} : Nat → Int → Int → Int → Int → Int → (Int → Int → Int → Int → Int → Option α) → (Int → Option α) → Option α
  | 0, _, _, _, _, _, _, _ => none
  | k + 1, m1, r_, s, x, y, b0, r0 =>
    bif (!decide (s = 0)) then
      bif decide (s = 0) then
        none
      else
        impl_bezout_l2 k m1 s (w64 (r_ - (w64 ((w64 (Int.tdiv r_ s)) * s)))) y (w64 (x - (w64 ((w64 (Int.tdiv r_ s)) * y)))) b0 r0
    else
      b0 m1 r_ s x y

/-- loop.example/g01297/impl.bezout -/
def impl_bezout {α : Type} (k : Nat) (a : Int) (m : Int) (r0 : Int → Option α) : Option α :=
  impl_mod k a m fun v =>
  impl_bezout_l2 k m v m 1 0
    (fun m2 _ _ x1 _ =>
      impl_mod k x1 m2 fun v1 =>
      r0 v1)
    r0

/-- (loop.example/g01297/impl.Point).mate -/
def impl_Point_mate {α : Type} (k : Nat) (a : Int) (a1 : Int) (r0 : Int → Int → Option α) : Option α :=
  bif decide (a = 0) then
    r0 (w64 (0 - a1)) 0
  else
    impl_size k a fun v =>
    impl_bezout k a1 v fun v1 =>
    impl_size k a fun v2 =>
    impl_mod k (w64 (0 - v1)) v2 fun v3 =>
    bif decide (a = 0) then
      none
    else
      r0 v3 (w64 (Int.tdiv (w64 (1 + (w64 (a1 * v3)))) a))

/-- loop.example/g01297/impl.MateOf -/
def impl_MateOf {α : Type} (k : Nat) (a : Int) (a1 : Int) (r0 : Int → Int → Int → Option α) : Option α :=
  impl_IsPoint k a a1 fun v =>
  bif (!v) then
    r0 0 0 1
  else
    impl_Point_isPrimitive k a a1 fun v1 =>
    bif (!v1) then
      r0 0 0 5
    else
      impl_Point_mate k a a1 fun v2 v3 =>
      impl_Point_told k v2 v3 fun v4 v5 v6 =>
      r0 v4 v5 v6

/-- loop.example/g01297/spec.l01Rest -/
def spec_l01Rest {α : Type} (k : Nat) (n_ : Int) (x : Int) (r0 : Int → Option α) : Option α :=
  bif decide (n_ = 0) then
    none
  else
  bif decide (n_ = 0) then
    none
  else
    r0 (Int.tmod (w64 ((Int.tmod x n_) + n_)) n_)

def spec_l01Base_l5 {α : Type} : Nat → Int → Int → Int → Int → Int → Int → Int → Int → Int → (Int → Int → Int → Int → Int → Int → Int → Int → Int → Option α) → (Int → Int → Option α) → Option α
  | 0, _, _, _, _, _, _, _, _, _, _, _ => none
  | k + 1, n_, x, before, rest, next, a2, a3, x1, x2, b0, r0 =>
    bif (!decide (next = 0)) then
      bif decide (next = 0) then
        none
      else
        spec_l01Base_l5 k n_ before (w64 (x - (w64 ((w64 (Int.tdiv rest next)) * before)))) next (w64 (rest - (w64 ((w64 (Int.tdiv rest next)) * next)))) a2 a3 x1 x2 b0 r0
    else
      b0 n_ x before rest next a2 a3 x1 x2

/-- loop.example/g01297/spec.l01Base -/
def spec_l01Base {α : Type} (k : Nat) (a : Int) (a1 : Int) (r0 : Int → Int → Option α) : Option α :=
  bif decide (a = 0) then
    r0 (w64 (0 - a1)) 0
  else
    spec_l01Rest k (max a (w64 (0 - a))) a1 fun v =>
    spec_l01Base_l5 k (max a (w64 (0 - a))) 1 0 v (max a (w64 (0 - a))) a a1 0 0
      (fun n_1 x3 _ _ _ a4 a5 _ _ =>
        spec_l01Rest k n_1 (w64 (0 - x3)) fun v1 =>
        bif decide (a4 = 0) then
          none
        else
          r0 v1 (w64 (Int.tdiv (w64 (1 + (w64 (a5 * v1)))) a4)))
      r0

/-- loop.example/g01297/spec.MateOf -/
def spec_MateOf {α : Type} (k : Nat) (a : Int) (a1 : Int) (r0 : Int → Int → Int → Option α) : Option α :=
  spec_l01Is k a a1 fun v =>
  bif (!v) then
    r0 0 0 1
  else
    spec_l01Gcd k a a1 fun v1 =>
    bif (!decide (v1 = 1)) then
      r0 0 0 5
    else
      spec_l01Base k a a1 fun v2 v3 =>
      r0 v2 v3 0

/-- loop.example/g01297/impl.DeterminantOf -/
def impl_DeterminantOf {α : Type} (k : Nat) (a : Int) (a1 : Int) (b_ : Int) (b_1 : Int) (r0 : Int → Int → Option α) : Option α :=
  impl_points k [(a, a1), (b_, b_1)] fun v =>
  bif (!v) then
    r0 0 1
  else
    impl_det k a a1 b_ b_1 fun v1 =>
    r0 v1 0

/-- loop.example/g01297/spec.DrawDistanceOf -/
def spec_DrawDistanceOf {α : Type} (k : Nat) (code : List Int) (r0 : Int → Int → Int → Int → Int → Int → Option α) : Option α :=
  spec_l01From k code fun v v1 =>
  spec_l01Spoil k code v v1 fun v2 v3 v4 v5 =>
  spec_l01Next k code v4 v5 12 fun v6 v7 v8 =>
  bif decide (v6 = 0) then
    spec_l01Spoil k code v7 v8 fun v9 v10 _ _ =>
    r0 v2 v3 v2 v3 v9 v10
  else
    spec_l01Spoil k code v7 v8 fun v13 v14 v15 v16 =>
    spec_l01Spoil k code v15 v16 fun v17 v18 _ _ =>
    r0 v2 v3 v13 v14 v17 v18

/-- loop.example/g01297/impl.DistanceOf -/
def impl_DistanceOf {α : Type} (k : Nat) (a : Int) (a1 : Int) (b_ : Int) (b_1 : Int) (c : Int) (c1 : Int) (r0 : Int → Int → Option α) : Option α :=
  impl_points k [(a, a1), (b_, b_1), (c, c1)] fun v =>
  bif (!v) then
    r0 0 1
  else
  bif (decide (a = b_) && decide (a1 = b_1)) then
    r0 0 5
  else
    impl_area k a a1 b_ b_1 c c1 fun v1 =>
    impl_Point_less k b_ b_1 a a1 fun v2 v3 =>
    impl_Point_length k v2 v3 fun v4 =>
    bif decide (v4 = 0) then
      none
    else
      r0 (w64 (Int.tdiv v1 v4)) 0

/-- loop.example/g01297/spec.l01Length -/
def spec_l01Length {α : Type} (k : Nat) (a : Int) (a1 : Int) (b_ : Int) (b_1 : Int) (r0 : Int → Option α) : Option α :=
  spec_l01Gcd k (w64 (b_ - a)) (w64 (b_1 - a1)) fun v =>
  r0 v

/-- loop.example/g01297/spec.DistanceOf -/
def spec_DistanceOf {α : Type} (k : Nat) (a : Int) (a1 : Int) (b_ : Int) (b_1 : Int) (c : Int) (c1 : Int) (r0 : Int → Int → Option α) : Option α :=
  spec_l01Code k [(a, a1), (b_, b_1), (c, c1)] fun v =>
  bif (!decide (v = 0)) then
    r0 0 v
  else
  bif (decide (a = b_) && decide (a1 = b_1)) then
    r0 0 5
  else
    spec_l01Area k a a1 b_ b_1 c c1 fun v1 =>
    spec_l01Length k a a1 b_ b_1 fun v2 =>
    bif decide (v2 = 0) then
      none
    else
      r0 (w64 (Int.tdiv v1 v2)) 0

/-- loop.example/g01297/spec.DrawPrimitiveOf -/
def spec_DrawPrimitiveOf {α : Type} (k : Nat) (code : List Int) (r0 : Int → Int → Option α) : Option α :=
  spec_l01From k code fun v v1 =>
  spec_l01Spoil k code v v1 fun v2 v3 _ _ =>
  r0 v2 v3

/-- (loop.example/g01297/impl.Point).primitive -/
def impl_Point_primitive {α : Type} (k : Nat) (a : Int) (a1 : Int) (r0 : Int → Int → Option α) : Option α :=
  impl_Point_length k a a1 fun v =>
  bif decide (v = 0) then
    none
  else
  bif decide (v = 0) then
    none
  else
    r0 (w64 (Int.tdiv a v)) (w64 (Int.tdiv a1 v))

/-- loop.example/g01297/impl.PrimitiveOf -/
def impl_PrimitiveOf {α : Type} (k : Nat) (a : Int) (a1 : Int) (r0 : Int → Int → Int → Option α) : Option α :=
  impl_IsPoint k a a1 fun v =>
  bif (!v) then
    r0 0 0 1
  else
  bif (decide (a = 0) && decide (a1 = 0)) then
    r0 0 0 5
  else
    impl_Point_primitive k a a1 fun v1 v2 =>
    r0 v1 v2 0

/-- loop.example/g01297/spec.PrimitiveOf -/
def spec_PrimitiveOf {α : Type} (k : Nat) (a : Int) (a1 : Int) (r0 : Int → Int → Int → Option α) : Option α :=
  spec_l01Is k a a1 fun v =>
  bif (!v) then
    r0 0 0 1
  else
  bif (decide (a = 0) && decide (a1 = 0)) then
    r0 0 0 5
  else
    spec_l01Part k a a1 fun v1 v2 =>
    r0 v1 v2 0

/-- loop.example/g01297/spec.DrawAddPoints -/
def spec_DrawAddPoints {α : Type} (k : Nat) (code : List Int) (r0 : Int → Int → Int → Int → Int → Option α) : Option α :=
  spec_l01From k code fun v v1 =>
  spec_l01Spoil k code v v1 fun v2 v3 v4 v5 =>
  spec_l01Spoil k code v4 v5 fun v6 v7 v8 v9 =>
  spec_l01Pick k code v8 v9 [1, (-1), 2, (-7), 1000, 1000001] fun v10 _ _ =>
  r0 v2 v3 v6 v7 v10

/-- loop.example/g01297/impl.AddPoints -/
def impl_AddPoints {α : Type} (k : Nat) (a : Int) (a1 : Int) (b_ : Int) (b_1 : Int) (k_ : Int) (r0 : Int → Int → Int → Option α) : Option α :=
  impl_points k [(a, a1), (b_, b_1)] fun v =>
  bif (!v) then
    r0 0 0 1
  else
    impl_isCoord k k_ fun v1 =>
    bif (!v1) then
      r0 0 0 2
    else
      impl_Point_plus k a a1 b_ b_1 k_ fun v2 v3 =>
      impl_Point_told k v2 v3 fun v4 v5 v6 =>
      r0 v4 v5 v6

/-- loop.example/g01297/spec.l01Told -/
def spec_l01Told {α : Type} (k : Nat) (a : Int) (a1 : Int) (r0 : Int → Int → Int → Option α) : Option α :=
  spec_l01Is k a a1 fun v =>
  bif (!v) then
    r0 0 0 3
  else
    r0 a a1 0

/-- loop.example/g01297/spec.AddPoints -/
def spec_AddPoints {α : Type} (k : Nat) (a : Int) (a1 : Int) (b_ : Int) (b_1 : Int) (k_ : Int) (r0 : Int → Int → Int → Option α) : Option α :=
  spec_l01Code k [(a, a1), (b_, b_1)] fun v =>
  bif (!decide (v = 0)) then
    r0 0 0 v
  else
    spec_l01Fits k k_ fun v1 =>
    bif (!v1) then
      r0 0 0 2
    else
      spec_l01Plus k a a1 b_ b_1 k_ fun v2 v3 =>
      spec_l01Told k v2 v3 fun v4 v5 v6 =>
      r0 v4 v5 v6

/-- loop.example/g01297/spec.DrawApplyMatrix -/
def spec_DrawApplyMatrix {α : Type} (k : Nat) (code : List Int) (r0 : Int → Int → Int → Int → Int → Int → Option α) : Option α :=
  spec_l01From k code fun v v1 =>
  spec_l01AnyMatrix k code v v1 fun v2 v3 v4 v5 v6 v7 =>
  spec_l01Spoil k code v6 v7 fun v8 v9 _ _ =>
  r0 v2 v3 v4 v5 v8 v9

/-- loop.example/g01297/spec.l01Apply -/
def spec_l01Apply {α : Type} (k : Nat) (m : Int) (m1 : Int) (m2 : Int) (m3 : Int) (a : Int) (a1 : Int) (r0 : Int → Int → Option α) : Option α :=
  r0 (w64 ((w64 (m * a)) + (w64 (m1 * a1)))) (w64 ((w64 (m2 * a)) + (w64 (m3 * a1))))

/-- loop.example/g01297/spec.ApplyMatrix -/
def spec_ApplyMatrix {α : Type} (k : Nat) (m : Int) (m1 : Int) (m2 : Int) (m3 : Int) (a : Int) (a1 : Int) (r0 : Int → Int → Int → Option α) : Option α :=
  spec_l01Matrix k m m1 m2 m3 fun v =>
  bif (!v) then
    r0 0 0 1
  else
    spec_l01Is k a a1 fun v1 =>
    bif (!v1) then
      r0 0 0 1
    else
      spec_l01Apply k m m1 m2 m3 a a1 fun v2 v3 =>
      spec_l01Told k v2 v3 fun v4 v5 v6 =>
      r0 v4 v5 v6

/-- loop.example/g01297/spec.DrawMultiplyMatrices -/
def spec_DrawMultiplyMatrices {α : Type} (k : Nat) (code : List Int) (r0 : Int → Int → Int → Int → Int → Int → Int → Int → Option α) : Option α :=
  spec_l01From k code fun v v1 =>
  spec_l01AnyMatrix k code v v1 fun v2 v3 v4 v5 v6 v7 =>
  spec_l01AnyMatrix k code v6 v7 fun v8 v9 v10 v11 _ _ =>
  r0 v2 v3 v4 v5 v8 v9 v10 v11

/-- loop.example/g01297/spec.MultiplyMatrices -/
def spec_MultiplyMatrices {α : Type} (k : Nat) (m : Int) (m1 : Int) (m2 : Int) (m3 : Int) (n_ : Int) (n_1 : Int) (n_2 : Int) (n_3 : Int) (r0 : Int → Int → Int → Int → Int → Option α) : Option α :=
  spec_l01Matrix k m m1 m2 m3 fun v =>
  bif (!v) then
    r0 0 0 0 0 1
  else
    spec_l01Matrix k n_ n_1 n_2 n_3 fun v1 =>
    bif (!v1) then
      r0 0 0 0 0 1
    else
      spec_l01Times k m m1 m2 m3 n_ n_1 n_2 n_3 fun v2 v3 v4 v5 =>
      spec_l01Matrix k v2 v3 v4 v5 fun v6 =>
      bif (!v6) then
        r0 0 0 0 0 3
      else
        r0 v2 v3 v4 v5 0

/-- loop.example/g01297/spec.DrawLengthOf -/
def spec_DrawLengthOf {α : Type} (k : Nat) (code : List Int) (r0 : Int → Int → Int → Int → Option α) : Option α :=
  spec_l01From k code fun v v1 =>
  spec_l01Spoil k code v v1 fun v2 v3 v4 v5 =>
  spec_l01Next k code v4 v5 3 fun v6 v7 v8 =>
  bif decide (v6 = 0) then
    spec_l01DrawPoint k code v7 v8 3 fun v9 v10 v11 v12 =>
    spec_l01Next k code v11 v12 6 fun v13 v14 v15 =>
    spec_l01Plus k v2 v3 v9 v10 (w64 (1 + v13)) fun v16 v17 =>
    spec_l01Bad k code v14 v15 v16 v17 fun v18 v19 _ _ =>
    r0 v2 v3 v18 v19
  else
    spec_l01Spoil k code v7 v8 fun v22 v23 _ _ =>
    r0 v2 v3 v22 v23

/-- loop.example/g01297/spec.LengthOf -/
def spec_LengthOf {α : Type} (k : Nat) (a : Int) (a1 : Int) (b_ : Int) (b_1 : Int) (r0 : Int → Int → Option α) : Option α :=
  spec_l01Code k [(a, a1), (b_, b_1)] fun v =>
  bif (!decide (v = 0)) then
    r0 0 v
  else
    spec_l01Length k a a1 b_ b_1 fun v1 =>
    r0 v1 0

/-- loop.example/g01297/laws.FnPointMaps -/
def laws_FnPointMaps_F {α : Type} (F0 : Nat → List Int → (Bool → Option α) → Option α) (F1 : Nat → List Int → (Int → Int → Int → Int → Option α) → Option α) (F2 : Nat → Int → Int → Int → Int → (Int → Int → Int → Int → Int → Option α) → Option α) (F3 : Nat → Int → Int → Int → Int → (Int → Int → Int → Int → Int → Option α) → Option α) (F4 : Nat → List Int → (Int → Int → Int → Int → Int → Int → Option α) → Option α) (F5 : Nat → Int → Int → Int → Int → Int → Int → (Int → Int → Option α) → Option α) (F6 : Nat → Int → Int → Int → Int → Int → Int → (Int → Int → Option α) → Option α) (F7 : Nat → Int → Int → Int → Int → (Bool → Option α) → Option α) (F8 : Nat → Int → Int → Int → Int → (Bool → Option α) → Option α) (F9 : Nat → Int → Int → Int → Int → Int → Int → Int → Int → (Int → Int → Int → Int → Int → Option α) → Option α) (F10 : Nat → Int → Int → Int → Int → Int → Int → (Int → Int → Int → Option α) → Option α) (F11 : Nat → Int → Int → Int → Int → (Int → Int → Option α) → Option α) (F12 : Nat → List Int → (Int → Int → Option α) → Option α) (F13 : Nat → Int → Int → (Int → Int → Int → Option α) → Option α) (F14 : Nat → Int → Int → (Int → Int → Int → Option α) → Option α) (F15 : Nat → Int → Int → Int → Int → (Int → Int → Option α) → Option α) (F16 : Nat → List Int → (Int → Int → Int → Int → Int → Int → Option α) → Option α) (F17 : Nat → Int → Int → Int → Int → Int → Int → (Int → Int → Option α) → Option α) (F18 : Nat → Int → Int → Int → Int → Int → Int → (Int → Int → Option α) → Option α) (F19 : Nat → List Int → (Int → Int → Option α) → Option α) (F20 : Nat → Int → Int → (Int → Int → Int → Option α) → Option α) (F21 : Nat → Int → Int → (Int → Int → Int → Option α) → Option α) (F22 : Nat → List Int → (Int → Int → Int → Int → Int → Option α) → Option α) (F23 : Nat → Int → Int → Int → Int → Int → (Int → Int → Int → Option α) → Option α) (F24 : Nat → Int → Int → Int → Int → Int → (Int → Int → Int → Option α) → Option α) (F25 : Nat → List Int → (Int → Int → Int → Int → Int → Int → Option α) → Option α) (F26 : Nat → Int → Int → Int → Int → Int → Int → (Int → Int → Int → Option α) → Option α) (F27 : Nat → List Int → (Int → Int → Int → Int → Int → Int → Int → Int → Option α) → Option α) (F28 : Nat → Int → Int → Int → Int → Int → Int → Int → Int → (Int → Int → Int → Int → Int → Option α) → Option α) (F29 : Nat → List Int → (Int → Int → Int → Int → Option α) → Option α) (F30 : Nat → Int → Int → Int → Int → (Int → Int → Option α) → Option α)  (k : Nat) (code : List Int) (r0 : Bool → Option α) : Option α :=
  F0 k code fun v =>
  bif v then
    r0 true
  else
    F1 k code fun v1 v2 v3 v4 =>
    F2 k v1 v2 v3 v4 fun v5 v6 v7 v8 v9 =>
    F3 k v1 v2 v3 v4 fun v10 v11 v12 v13 v14 =>
    F4 k code fun v15 v16 v17 v18 v19 v20 =>
    F5 k v15 v16 v17 v18 v19 v20 fun v21 v22 =>
    F6 k v15 v16 v17 v18 v19 v20 fun v23 v24 =>
    bif (!decide (v9 = v14)) then
      r0 false
    else
    bif (!(decide (v5 = v10) && (decide (v6 = v11) && (decide (v7 = v12) && decide (v8 = v13))))) then
      r0 false
    else
    bif (!decide (v22 = v24)) then
      r0 false
    else
    bif (!decide (v21 = v23)) then
      r0 false
    else
      F7 k v1 v2 v3 v4 fun v25 =>
      F8 k v1 v2 v3 v4 fun v26 =>
      bif (!(v25 == v26)) then
        r0 false
      else
      bif decide (v9 = 0) then
        F9 k v1 v2 v3 v4 v5 v6 v7 v8 fun v27 v28 v29 v30 v31 =>
        bif (!decide (v31 = 0)) then
          r0 false
        else
        bif (!(decide (v27 = 1) && (decide (v28 = 0) && (decide (v29 = 0) && decide (v30 = 1))))) then
          r0 false
        else
          F10 k v1 v2 v3 v4 v15 v16 fun v32 v33 v34 =>
          F10 k v1 v2 v3 v4 v17 v18 fun v35 v36 v37 =>
          F10 k v1 v2 v3 v4 v19 v20 fun v38 v39 v40 =>
          bif decide (v34 = 0) then
            bif decide (v37 = 0) then
              bif decide (v40 = 0) then
                F5 k v32 v33 v35 v36 v38 v39 fun v41 v42 =>
                F11 k v32 v33 v35 v36 fun v43 v44 =>
                F11 k v15 v16 v17 v18 fun v45 v46 =>
                F10 k v5 v6 v7 v8 v32 v33 fun v47 v48 v49 =>
                bif (!decide (v42 = 0)) then
                  r0 false
                else
                bif (!decide (v44 = 0)) then
                  r0 false
                else
                bif (!decide (v46 = 0)) then
                  r0 false
                else
                bif (!decide (v49 = 0)) then
                  r0 false
                else
                bif (!decide (v41 = v21)) then
                  r0 false
                else
                bif (!decide (v43 = v45)) then
                  r0 false
                else
                bif (!(decide (v47 = v15) && decide (v48 = v16))) then
                  r0 false
                else
                  F12 k code fun v50 v51 =>
                  F13 k v50 v51 fun v52 v53 v54 =>
                  F14 k v50 v51 fun v55 v56 v57 =>
                  bif (!decide (v54 = v57)) then
                    r0 false
                  else
                  bif (!(decide (v52 = v55) && decide (v53 = v56))) then
                    r0 false
                  else
                  bif decide (v54 = 0) then
                    F15 k v50 v51 v52 v53 fun v58 v59 =>
                    bif (!decide (v59 = 0)) then
                      r0 false
                    else
                    bif (!decide (v58 = 1)) then
                      r0 false
                    else
                      F16 k code fun v60 v61 v62 v63 v64 v65 =>
                      F17 k v60 v61 v62 v63 v64 v65 fun v66 v67 =>
                      F18 k v60 v61 v62 v63 v64 v65 fun v68 v69 =>
                      bif (!decide (v67 = v69)) then
                        r0 false
                      else
                      bif (!decide (v66 = v68)) then
                        r0 false
                      else
                      bif decide (v67 = 0) then
                        F11 k v60 v61 v62 v63 fun v70 v71 =>
                        F5 k v60 v61 v62 v63 v64 v65 fun v72 v73 =>
                        bif (!decide (v71 = 0)) then
                          r0 false
                        else
                        bif (!decide (v73 = 0)) then
                          r0 false
                        else
                        bif (!decide ((w64 (v66 * v70)) = v72)) then
                          r0 false
                        else
                          F19 k code fun v74 v75 =>
                          F20 k v74 v75 fun v76 v77 v78 =>
                          F21 k v74 v75 fun v79 v80 v81 =>
                          F22 k code fun v82 v83 v84 v85 v86 =>
                          F23 k v82 v83 v84 v85 v86 fun v87 v88 v89 =>
                          F24 k v82 v83 v84 v85 v86 fun v90 v91 v92 =>
                          F25 k code fun v93 v94 v95 v96 v97 v98 =>
                          F10 k v93 v94 v95 v96 v97 v98 fun v99 v100 v101 =>
                          F26 k v93 v94 v95 v96 v97 v98 fun v102 v103 v104 =>
                          F27 k code fun v105 v106 v107 v108 v109 v110 v111 v112 =>
                          F9 k v105 v106 v107 v108 v109 v110 v111 v112 fun v113 v114 v115 v116 v117 =>
                          F28 k v105 v106 v107 v108 v109 v110 v111 v112 fun v118 v119 v120 v121 v122 =>
                          F29 k code fun v123 v124 v125 v126 =>
                          F11 k v123 v124 v125 v126 fun v127 v128 =>
                          F30 k v123 v124 v125 v126 fun v129 v130 =>
                          bif decide (v78 = v81) then
                            bif (decide (v76 = v79) && decide (v77 = v80)) then
                              bif decide (v89 = v92) then
                                bif (decide (v87 = v90) && decide (v88 = v91)) then
                                  bif decide (v101 = v104) then
                                    bif (decide (v99 = v102) && decide (v100 = v103)) then
                                      bif decide (v117 = v122) then
                                        bif (decide (v113 = v118) && (decide (v114 = v119) && (decide (v115 = v120) && decide (v116 = v121)))) then
                                          bif decide (v128 = v130) then
                                            r0 (decide (v127 = v129))
                                          else
                                            r0 false
                                        else
                                          r0 false
                                      else
                                        r0 false
                                    else
                                      r0 false
                                  else
                                    r0 false
                                else
                                  r0 false
                              else
                                r0 false
                            else
                              r0 false
                          else
                            r0 false
                      else
                        F19 k code fun v131 v132 =>
                        F20 k v131 v132 fun v133 v134 v135 =>
                        F21 k v131 v132 fun v136 v137 v138 =>
                        F22 k code fun v139 v140 v141 v142 v143 =>
                        F23 k v139 v140 v141 v142 v143 fun v144 v145 v146 =>
                        F24 k v139 v140 v141 v142 v143 fun v147 v148 v149 =>
                        F25 k code fun v150 v151 v152 v153 v154 v155 =>
                        F10 k v150 v151 v152 v153 v154 v155 fun v156 v157 v158 =>
                        F26 k v150 v151 v152 v153 v154 v155 fun v159 v160 v161 =>
                        F27 k code fun v162 v163 v164 v165 v166 v167 v168 v169 =>
                        F9 k v162 v163 v164 v165 v166 v167 v168 v169 fun v170 v171 v172 v173 v174 =>
                        F28 k v162 v163 v164 v165 v166 v167 v168 v169 fun v175 v176 v177 v178 v179 =>
                        F29 k code fun v180 v181 v182 v183 =>
                        F11 k v180 v181 v182 v183 fun v184 v185 =>
                        F30 k v180 v181 v182 v183 fun v186 v187 =>
                        bif decide (v135 = v138) then
                          bif (decide (v133 = v136) && decide (v134 = v137)) then
                            bif decide (v146 = v149) then
                              bif (decide (v144 = v147) && decide (v145 = v148)) then
                                bif decide (v158 = v161) then
                                  bif (decide (v156 = v159) && decide (v157 = v160)) then
                                    bif decide (v174 = v179) then
                                      bif (decide (v170 = v175) && (decide (v171 = v176) && (decide (v172 = v177) && decide (v173 = v178)))) then
                                        bif decide (v185 = v187) then
                                          r0 (decide (v184 = v186))
                                        else
                                          r0 false
                                      else
                                        r0 false
                                    else
                                      r0 false
                                  else
                                    r0 false
                                else
                                  r0 false
                              else
                                r0 false
                            else
                              r0 false
                          else
                            r0 false
                        else
                          r0 false
                  else
                    F16 k code fun v188 v189 v190 v191 v192 v193 =>
                    F17 k v188 v189 v190 v191 v192 v193 fun v194 v195 =>
                    F18 k v188 v189 v190 v191 v192 v193 fun v196 v197 =>
                    bif (!decide (v195 = v197)) then
                      r0 false
                    else
                    bif (!decide (v194 = v196)) then
                      r0 false
                    else
                    bif decide (v195 = 0) then
                      F11 k v188 v189 v190 v191 fun v198 v199 =>
                      F5 k v188 v189 v190 v191 v192 v193 fun v200 v201 =>
                      bif (!decide (v199 = 0)) then
                        r0 false
                      else
                      bif (!decide (v201 = 0)) then
                        r0 false
                      else
                      bif (!decide ((w64 (v194 * v198)) = v200)) then
                        r0 false
                      else
                        F19 k code fun v202 v203 =>
                        F20 k v202 v203 fun v204 v205 v206 =>
                        F21 k v202 v203 fun v207 v208 v209 =>
                        F22 k code fun v210 v211 v212 v213 v214 =>
                        F23 k v210 v211 v212 v213 v214 fun v215 v216 v217 =>
                        F24 k v210 v211 v212 v213 v214 fun v218 v219 v220 =>
                        F25 k code fun v221 v222 v223 v224 v225 v226 =>
                        F10 k v221 v222 v223 v224 v225 v226 fun v227 v228 v229 =>
                        F26 k v221 v222 v223 v224 v225 v226 fun v230 v231 v232 =>
                        F27 k code fun v233 v234 v235 v236 v237 v238 v239 v240 =>
                        F9 k v233 v234 v235 v236 v237 v238 v239 v240 fun v241 v242 v243 v244 v245 =>
                        F28 k v233 v234 v235 v236 v237 v238 v239 v240 fun v246 v247 v248 v249 v250 =>
                        F29 k code fun v251 v252 v253 v254 =>
                        F11 k v251 v252 v253 v254 fun v255 v256 =>
                        F30 k v251 v252 v253 v254 fun v257 v258 =>
                        bif decide (v206 = v209) then
                          bif (decide (v204 = v207) && decide (v205 = v208)) then
                            bif decide (v217 = v220) then
                              bif (decide (v215 = v218) && decide (v216 = v219)) then
                                bif decide (v229 = v232) then
                                  bif (decide (v227 = v230) && decide (v228 = v231)) then
                                    bif decide (v245 = v250) then
                                      bif (decide (v241 = v246) && (decide (v242 = v247) && (decide (v243 = v248) && decide (v244 = v249)))) then
                                        bif decide (v256 = v258) then
                                          r0 (decide (v255 = v257))
                                        else
                                          r0 false
                                      else
                                        r0 false
                                    else
                                      r0 false
                                  else
                                    r0 false
                                else
                                  r0 false
                              else
                                r0 false
                            else
                              r0 false
                          else
                            r0 false
                        else
                          r0 false
                    else
                      F19 k code fun v259 v260 =>
                      F20 k v259 v260 fun v261 v262 v263 =>
                      F21 k v259 v260 fun v264 v265 v266 =>
                      F22 k code fun v267 v268 v269 v270 v271 =>
                      F23 k v267 v268 v269 v270 v271 fun v272 v273 v274 =>
                      F24 k v267 v268 v269 v270 v271 fun v275 v276 v277 =>
                      F25 k code fun v278 v279 v280 v281 v282 v283 =>
                      F10 k v278 v279 v280 v281 v282 v283 fun v284 v285 v286 =>
                      F26 k v278 v279 v280 v281 v282 v283 fun v287 v288 v289 =>
                      F27 k code fun v290 v291 v292 v293 v294 v295 v296 v297 =>
                      F9 k v290 v291 v292 v293 v294 v295 v296 v297 fun v298 v299 v300 v301 v302 =>
                      F28 k v290 v291 v292 v293 v294 v295 v296 v297 fun v303 v304 v305 v306 v307 =>
                      F29 k code fun v308 v309 v310 v311 =>
                      F11 k v308 v309 v310 v311 fun v312 v313 =>
                      F30 k v308 v309 v310 v311 fun v314 v315 =>
                      bif decide (v263 = v266) then
                        bif (decide (v261 = v264) && decide (v262 = v265)) then
                          bif decide (v274 = v277) then
                            bif (decide (v272 = v275) && decide (v273 = v276)) then
                              bif decide (v286 = v289) then
                                bif (decide (v284 = v287) && decide (v285 = v288)) then
                                  bif decide (v302 = v307) then
                                    bif (decide (v298 = v303) && (decide (v299 = v304) && (decide (v300 = v305) && decide (v301 = v306)))) then
                                      bif decide (v313 = v315) then
                                        r0 (decide (v312 = v314))
                                      else
                                        r0 false
                                    else
                                      r0 false
                                  else
                                    r0 false
                                else
                                  r0 false
                              else
                                r0 false
                            else
                              r0 false
                          else
                            r0 false
                        else
                          r0 false
                      else
                        r0 false
              else
                F12 k code fun v316 v317 =>
                F13 k v316 v317 fun v318 v319 v320 =>
                F14 k v316 v317 fun v321 v322 v323 =>
                bif (!decide (v320 = v323)) then
                  r0 false
                else
                bif (!(decide (v318 = v321) && decide (v319 = v322))) then
                  r0 false
                else
                bif decide (v320 = 0) then
                  F15 k v316 v317 v318 v319 fun v324 v325 =>
                  bif (!decide (v325 = 0)) then
                    r0 false
                  else
                  bif (!decide (v324 = 1)) then
                    r0 false
                  else
                    F16 k code fun v326 v327 v328 v329 v330 v331 =>
                    F17 k v326 v327 v328 v329 v330 v331 fun v332 v333 =>
                    F18 k v326 v327 v328 v329 v330 v331 fun v334 v335 =>
                    bif (!decide (v333 = v335)) then
                      r0 false
                    else
                    bif (!decide (v332 = v334)) then
                      r0 false
                    else
                    bif decide (v333 = 0) then
                      F11 k v326 v327 v328 v329 fun v336 v337 =>
                      F5 k v326 v327 v328 v329 v330 v331 fun v338 v339 =>
                      bif (!decide (v337 = 0)) then
                        r0 false
                      else
                      bif (!decide (v339 = 0)) then
                        r0 false
                      else
                      bif (!decide ((w64 (v332 * v336)) = v338)) then
                        r0 false
                      else
                        F19 k code fun v340 v341 =>
                        F20 k v340 v341 fun v342 v343 v344 =>
                        F21 k v340 v341 fun v345 v346 v347 =>
                        F22 k code fun v348 v349 v350 v351 v352 =>
                        F23 k v348 v349 v350 v351 v352 fun v353 v354 v355 =>
                        F24 k v348 v349 v350 v351 v352 fun v356 v357 v358 =>
                        F25 k code fun v359 v360 v361 v362 v363 v364 =>
                        F10 k v359 v360 v361 v362 v363 v364 fun v365 v366 v367 =>
                        F26 k v359 v360 v361 v362 v363 v364 fun v368 v369 v370 =>
                        F27 k code fun v371 v372 v373 v374 v375 v376 v377 v378 =>
                        F9 k v371 v372 v373 v374 v375 v376 v377 v378 fun v379 v380 v381 v382 v383 =>
                        F28 k v371 v372 v373 v374 v375 v376 v377 v378 fun v384 v385 v386 v387 v388 =>
                        F29 k code fun v389 v390 v391 v392 =>
                        F11 k v389 v390 v391 v392 fun v393 v394 =>
                        F30 k v389 v390 v391 v392 fun v395 v396 =>
                        bif decide (v344 = v347) then
                          bif (decide (v342 = v345) && decide (v343 = v346)) then
                            bif decide (v355 = v358) then
                              bif (decide (v353 = v356) && decide (v354 = v357)) then
                                bif decide (v367 = v370) then
                                  bif (decide (v365 = v368) && decide (v366 = v369)) then
                                    bif decide (v383 = v388) then
                                      bif (decide (v379 = v384) && (decide (v380 = v385) && (decide (v381 = v386) && decide (v382 = v387)))) then
                                        bif decide (v394 = v396) then
                                          r0 (decide (v393 = v395))
                                        else
                                          r0 false
                                      else
                                        r0 false
                                    else
                                      r0 false
                                  else
                                    r0 false
                                else
                                  r0 false
                              else
                                r0 false
                            else
                              r0 false
                          else
                            r0 false
                        else
                          r0 false
                    else
                      F19 k code fun v397 v398 =>
                      F20 k v397 v398 fun v399 v400 v401 =>
                      F21 k v397 v398 fun v402 v403 v404 =>
                      F22 k code fun v405 v406 v407 v408 v409 =>
                      F23 k v405 v406 v407 v408 v409 fun v410 v411 v412 =>
                      F24 k v405 v406 v407 v408 v409 fun v413 v414 v415 =>
                      F25 k code fun v416 v417 v418 v419 v420 v421 =>
                      F10 k v416 v417 v418 v419 v420 v421 fun v422 v423 v424 =>
                      F26 k v416 v417 v418 v419 v420 v421 fun v425 v426 v427 =>
                      F27 k code fun v428 v429 v430 v431 v432 v433 v434 v435 =>
                      F9 k v428 v429 v430 v431 v432 v433 v434 v435 fun v436 v437 v438 v439 v440 =>
                      F28 k v428 v429 v430 v431 v432 v433 v434 v435 fun v441 v442 v443 v444 v445 =>
                      F29 k code fun v446 v447 v448 v449 =>
                      F11 k v446 v447 v448 v449 fun v450 v451 =>
                      F30 k v446 v447 v448 v449 fun v452 v453 =>
                      bif decide (v401 = v404) then
                        bif (decide (v399 = v402) && decide (v400 = v403)) then
                          bif decide (v412 = v415) then
                            bif (decide (v410 = v413) && decide (v411 = v414)) then
                              bif decide (v424 = v427) then
                                bif (decide (v422 = v425) && decide (v423 = v426)) then
                                  bif decide (v440 = v445) then
                                    bif (decide (v436 = v441) && (decide (v437 = v442) && (decide (v438 = v443) && decide (v439 = v444)))) then
                                      bif decide (v451 = v453) then
                                        r0 (decide (v450 = v452))
                                      else
                                        r0 false
                                    else
                                      r0 false
                                  else
                                    r0 false
                                else
                                  r0 false
                              else
                                r0 false
                            else
                              r0 false
                          else
                            r0 false
                        else
                          r0 false
                      else
                        r0 false
                else
                  F16 k code fun v454 v455 v456 v457 v458 v459 =>
                  F17 k v454 v455 v456 v457 v458 v459 fun v460 v461 =>
                  F18 k v454 v455 v456 v457 v458 v459 fun v462 v463 =>
                  bif (!decide (v461 = v463)) then
                    r0 false
                  else
                  bif (!decide (v460 = v462)) then
                    r0 false
                  else
                  bif decide (v461 = 0) then
                    F11 k v454 v455 v456 v457 fun v464 v465 =>
                    F5 k v454 v455 v456 v457 v458 v459 fun v466 v467 =>
                    bif (!decide (v465 = 0)) then
                      r0 false
                    else
                    bif (!decide (v467 = 0)) then
                      r0 false
                    else
                    bif (!decide ((w64 (v460 * v464)) = v466)) then
                      r0 false
                    else
                      F19 k code fun v468 v469 =>
                      F20 k v468 v469 fun v470 v471 v472 =>
                      F21 k v468 v469 fun v473 v474 v475 =>
                      F22 k code fun v476 v477 v478 v479 v480 =>
                      F23 k v476 v477 v478 v479 v480 fun v481 v482 v483 =>
                      F24 k v476 v477 v478 v479 v480 fun v484 v485 v486 =>
                      F25 k code fun v487 v488 v489 v490 v491 v492 =>
                      F10 k v487 v488 v489 v490 v491 v492 fun v493 v494 v495 =>
                      F26 k v487 v488 v489 v490 v491 v492 fun v496 v497 v498 =>
                      F27 k code fun v499 v500 v501 v502 v503 v504 v505 v506 =>
                      F9 k v499 v500 v501 v502 v503 v504 v505 v506 fun v507 v508 v509 v510 v511 =>
                      F28 k v499 v500 v501 v502 v503 v504 v505 v506 fun v512 v513 v514 v515 v516 =>
                      F29 k code fun v517 v518 v519 v520 =>
                      F11 k v517 v518 v519 v520 fun v521 v522 =>
                      F30 k v517 v518 v519 v520 fun v523 v524 =>
                      bif decide (v472 = v475) then
                        bif (decide (v470 = v473) && decide (v471 = v474)) then
                          bif decide (v483 = v486) then
                            bif (decide (v481 = v484) && decide (v482 = v485)) then
                              bif decide (v495 = v498) then
                                bif (decide (v493 = v496) && decide (v494 = v497)) then
                                  bif decide (v511 = v516) then
                                    bif (decide (v507 = v512) && (decide (v508 = v513) && (decide (v509 = v514) && decide (v510 = v515)))) then
                                      bif decide (v522 = v524) then
                                        r0 (decide (v521 = v523))
                                      else
                                        r0 false
                                    else
                                      r0 false
                                  else
                                    r0 false
                                else
                                  r0 false
                              else
                                r0 false
                            else
                              r0 false
                          else
                            r0 false
                        else
                          r0 false
                      else
                        r0 false
                  else
                    F19 k code fun v525 v526 =>
                    F20 k v525 v526 fun v527 v528 v529 =>
                    F21 k v525 v526 fun v530 v531 v532 =>
                    F22 k code fun v533 v534 v535 v536 v537 =>
                    F23 k v533 v534 v535 v536 v537 fun v538 v539 v540 =>
                    F24 k v533 v534 v535 v536 v537 fun v541 v542 v543 =>
                    F25 k code fun v544 v545 v546 v547 v548 v549 =>
                    F10 k v544 v545 v546 v547 v548 v549 fun v550 v551 v552 =>
                    F26 k v544 v545 v546 v547 v548 v549 fun v553 v554 v555 =>
                    F27 k code fun v556 v557 v558 v559 v560 v561 v562 v563 =>
                    F9 k v556 v557 v558 v559 v560 v561 v562 v563 fun v564 v565 v566 v567 v568 =>
                    F28 k v556 v557 v558 v559 v560 v561 v562 v563 fun v569 v570 v571 v572 v573 =>
                    F29 k code fun v574 v575 v576 v577 =>
                    F11 k v574 v575 v576 v577 fun v578 v579 =>
                    F30 k v574 v575 v576 v577 fun v580 v581 =>
                    bif decide (v529 = v532) then
                      bif (decide (v527 = v530) && decide (v528 = v531)) then
                        bif decide (v540 = v543) then
                          bif (decide (v538 = v541) && decide (v539 = v542)) then
                            bif decide (v552 = v555) then
                              bif (decide (v550 = v553) && decide (v551 = v554)) then
                                bif decide (v568 = v573) then
                                  bif (decide (v564 = v569) && (decide (v565 = v570) && (decide (v566 = v571) && decide (v567 = v572)))) then
                                    bif decide (v579 = v581) then
                                      r0 (decide (v578 = v580))
                                    else
                                      r0 false
                                  else
                                    r0 false
                                else
                                  r0 false
                              else
                                r0 false
                            else
                              r0 false
                          else
                            r0 false
                        else
                          r0 false
                      else
                        r0 false
                    else
                      r0 false
            else
              F12 k code fun v582 v583 =>
              F13 k v582 v583 fun v584 v585 v586 =>
              F14 k v582 v583 fun v587 v588 v589 =>
              bif (!decide (v586 = v589)) then
                r0 false
              else
              bif (!(decide (v584 = v587) && decide (v585 = v588))) then
                r0 false
              else
              bif decide (v586 = 0) then
                F15 k v582 v583 v584 v585 fun v590 v591 =>
                bif (!decide (v591 = 0)) then
                  r0 false
                else
                bif (!decide (v590 = 1)) then
                  r0 false
                else
                  F16 k code fun v592 v593 v594 v595 v596 v597 =>
                  F17 k v592 v593 v594 v595 v596 v597 fun v598 v599 =>
                  F18 k v592 v593 v594 v595 v596 v597 fun v600 v601 =>
                  bif (!decide (v599 = v601)) then
                    r0 false
                  else
                  bif (!decide (v598 = v600)) then
                    r0 false
                  else
                  bif decide (v599 = 0) then
                    F11 k v592 v593 v594 v595 fun v602 v603 =>
                    F5 k v592 v593 v594 v595 v596 v597 fun v604 v605 =>
                    bif (!decide (v603 = 0)) then
                      r0 false
                    else
                    bif (!decide (v605 = 0)) then
                      r0 false
                    else
                    bif (!decide ((w64 (v598 * v602)) = v604)) then
                      r0 false
                    else
                      F19 k code fun v606 v607 =>
                      F20 k v606 v607 fun v608 v609 v610 =>
                      F21 k v606 v607 fun v611 v612 v613 =>
                      F22 k code fun v614 v615 v616 v617 v618 =>
                      F23 k v614 v615 v616 v617 v618 fun v619 v620 v621 =>
                      F24 k v614 v615 v616 v617 v618 fun v622 v623 v624 =>
                      F25 k code fun v625 v626 v627 v628 v629 v630 =>
                      F10 k v625 v626 v627 v628 v629 v630 fun v631 v632 v633 =>
                      F26 k v625 v626 v627 v628 v629 v630 fun v634 v635 v636 =>
                      F27 k code fun v637 v638 v639 v640 v641 v642 v643 v644 =>
                      F9 k v637 v638 v639 v640 v641 v642 v643 v644 fun v645 v646 v647 v648 v649 =>
                      F28 k v637 v638 v639 v640 v641 v642 v643 v644 fun v650 v651 v652 v653 v654 =>
                      F29 k code fun v655 v656 v657 v658 =>
                      F11 k v655 v656 v657 v658 fun v659 v660 =>
                      F30 k v655 v656 v657 v658 fun v661 v662 =>
                      bif decide (v610 = v613) then
                        bif (decide (v608 = v611) && decide (v609 = v612)) then
                          bif decide (v621 = v624) then
                            bif (decide (v619 = v622) && decide (v620 = v623)) then
                              bif decide (v633 = v636) then
                                bif (decide (v631 = v634) && decide (v632 = v635)) then
                                  bif decide (v649 = v654) then
                                    bif (decide (v645 = v650) && (decide (v646 = v651) && (decide (v647 = v652) && decide (v648 = v653)))) then
                                      bif decide (v660 = v662) then
                                        r0 (decide (v659 = v661))
                                      else
                                        r0 false
                                    else
                                      r0 false
                                  else
                                    r0 false
                                else
                                  r0 false
                              else
                                r0 false
                            else
                              r0 false
                          else
                            r0 false
                        else
                          r0 false
                      else
                        r0 false
                  else
                    F19 k code fun v663 v664 =>
                    F20 k v663 v664 fun v665 v666 v667 =>
                    F21 k v663 v664 fun v668 v669 v670 =>
                    F22 k code fun v671 v672 v673 v674 v675 =>
                    F23 k v671 v672 v673 v674 v675 fun v676 v677 v678 =>
                    F24 k v671 v672 v673 v674 v675 fun v679 v680 v681 =>
                    F25 k code fun v682 v683 v684 v685 v686 v687 =>
                    F10 k v682 v683 v684 v685 v686 v687 fun v688 v689 v690 =>
                    F26 k v682 v683 v684 v685 v686 v687 fun v691 v692 v693 =>
                    F27 k code fun v694 v695 v696 v697 v698 v699 v700 v701 =>
                    F9 k v694 v695 v696 v697 v698 v699 v700 v701 fun v702 v703 v704 v705 v706 =>
                    F28 k v694 v695 v696 v697 v698 v699 v700 v701 fun v707 v708 v709 v710 v711 =>
                    F29 k code fun v712 v713 v714 v715 =>
                    F11 k v712 v713 v714 v715 fun v716 v717 =>
                    F30 k v712 v713 v714 v715 fun v718 v719 =>
                    bif decide (v667 = v670) then
                      bif (decide (v665 = v668) && decide (v666 = v669)) then
                        bif decide (v678 = v681) then
                          bif (decide (v676 = v679) && decide (v677 = v680)) then
                            bif decide (v690 = v693) then
                              bif (decide (v688 = v691) && decide (v689 = v692)) then
                                bif decide (v706 = v711) then
                                  bif (decide (v702 = v707) && (decide (v703 = v708) && (decide (v704 = v709) && decide (v705 = v710)))) then
                                    bif decide (v717 = v719) then
                                      r0 (decide (v716 = v718))
                                    else
                                      r0 false
                                  else
                                    r0 false
                                else
                                  r0 false
                              else
                                r0 false
                            else
                              r0 false
                          else
                            r0 false
                        else
                          r0 false
                      else
                        r0 false
                    else
                      r0 false
              else
                F16 k code fun v720 v721 v722 v723 v724 v725 =>
                F17 k v720 v721 v722 v723 v724 v725 fun v726 v727 =>
                F18 k v720 v721 v722 v723 v724 v725 fun v728 v729 =>
                bif (!decide (v727 = v729)) then
                  r0 false
                else
                bif (!decide (v726 = v728)) then
                  r0 false
                else
                bif decide (v727 = 0) then
                  F11 k v720 v721 v722 v723 fun v730 v731 =>
                  F5 k v720 v721 v722 v723 v724 v725 fun v732 v733 =>
                  bif (!decide (v731 = 0)) then
                    r0 false
                  else
                  bif (!decide (v733 = 0)) then
                    r0 false
                  else
                  bif (!decide ((w64 (v726 * v730)) = v732)) then
                    r0 false
                  else
                    F19 k code fun v734 v735 =>
                    F20 k v734 v735 fun v736 v737 v738 =>
                    F21 k v734 v735 fun v739 v740 v741 =>
                    F22 k code fun v742 v743 v744 v745 v746 =>
                    F23 k v742 v743 v744 v745 v746 fun v747 v748 v749 =>
                    F24 k v742 v743 v744 v745 v746 fun v750 v751 v752 =>
                    F25 k code fun v753 v754 v755 v756 v757 v758 =>
                    F10 k v753 v754 v755 v756 v757 v758 fun v759 v760 v761 =>
                    F26 k v753 v754 v755 v756 v757 v758 fun v762 v763 v764 =>
                    F27 k code fun v765 v766 v767 v768 v769 v770 v771 v772 =>
                    F9 k v765 v766 v767 v768 v769 v770 v771 v772 fun v773 v774 v775 v776 v777 =>
                    F28 k v765 v766 v767 v768 v769 v770 v771 v772 fun v778 v779 v780 v781 v782 =>
                    F29 k code fun v783 v784 v785 v786 =>
                    F11 k v783 v784 v785 v786 fun v787 v788 =>
                    F30 k v783 v784 v785 v786 fun v789 v790 =>
                    bif decide (v738 = v741) then
                      bif (decide (v736 = v739) && decide (v737 = v740)) then
                        bif decide (v749 = v752) then
                          bif (decide (v747 = v750) && decide (v748 = v751)) then
                            bif decide (v761 = v764) then
                              bif (decide (v759 = v762) && decide (v760 = v763)) then
                                bif decide (v777 = v782) then
                                  bif (decide (v773 = v778) && (decide (v774 = v779) && (decide (v775 = v780) && decide (v776 = v781)))) then
                                    bif decide (v788 = v790) then
                                      r0 (decide (v787 = v789))
                                    else
                                      r0 false
                                  else
                                    r0 false
                                else
                                  r0 false
                              else
                                r0 false
                            else
                              r0 false
                          else
                            r0 false
                        else
                          r0 false
                      else
                        r0 false
                    else
                      r0 false
                else
                  F19 k code fun v791 v792 =>
                  F20 k v791 v792 fun v793 v794 v795 =>
                  F21 k v791 v792 fun v796 v797 v798 =>
                  F22 k code fun v799 v800 v801 v802 v803 =>
                  F23 k v799 v800 v801 v802 v803 fun v804 v805 v806 =>
                  F24 k v799 v800 v801 v802 v803 fun v807 v808 v809 =>
                  F25 k code fun v810 v811 v812 v813 v814 v815 =>
                  F10 k v810 v811 v812 v813 v814 v815 fun v816 v817 v818 =>
                  F26 k v810 v811 v812 v813 v814 v815 fun v819 v820 v821 =>
                  F27 k code fun v822 v823 v824 v825 v826 v827 v828 v829 =>
                  F9 k v822 v823 v824 v825 v826 v827 v828 v829 fun v830 v831 v832 v833 v834 =>
                  F28 k v822 v823 v824 v825 v826 v827 v828 v829 fun v835 v836 v837 v838 v839 =>
                  F29 k code fun v840 v841 v842 v843 =>
                  F11 k v840 v841 v842 v843 fun v844 v845 =>
                  F30 k v840 v841 v842 v843 fun v846 v847 =>
                  bif decide (v795 = v798) then
                    bif (decide (v793 = v796) && decide (v794 = v797)) then
                      bif decide (v806 = v809) then
                        bif (decide (v804 = v807) && decide (v805 = v808)) then
                          bif decide (v818 = v821) then
                            bif (decide (v816 = v819) && decide (v817 = v820)) then
                              bif decide (v834 = v839) then
                                bif (decide (v830 = v835) && (decide (v831 = v836) && (decide (v832 = v837) && decide (v833 = v838)))) then
                                  bif decide (v845 = v847) then
                                    r0 (decide (v844 = v846))
                                  else
                                    r0 false
                                else
                                  r0 false
                              else
                                r0 false
                            else
                              r0 false
                          else
                            r0 false
                        else
                          r0 false
                      else
                        r0 false
                    else
                      r0 false
                  else
                    r0 false
          else
            F12 k code fun v848 v849 =>
            F13 k v848 v849 fun v850 v851 v852 =>
            F14 k v848 v849 fun v853 v854 v855 =>
            bif (!decide (v852 = v855)) then
              r0 false
            else
            bif (!(decide (v850 = v853) && decide (v851 = v854))) then
              r0 false
            else
            bif decide (v852 = 0) then
              F15 k v848 v849 v850 v851 fun v856 v857 =>
              bif (!decide (v857 = 0)) then
                r0 false
              else
              bif (!decide (v856 = 1)) then
                r0 false
              else
                F16 k code fun v858 v859 v860 v861 v862 v863 =>
                F17 k v858 v859 v860 v861 v862 v863 fun v864 v865 =>
                F18 k v858 v859 v860 v861 v862 v863 fun v866 v867 =>
                bif (!decide (v865 = v867)) then
                  r0 false
                else
                bif (!decide (v864 = v866)) then
                  r0 false
                else
                bif decide (v865 = 0) then
                  F11 k v858 v859 v860 v861 fun v868 v869 =>
                  F5 k v858 v859 v860 v861 v862 v863 fun v870 v871 =>
                  bif (!decide (v869 = 0)) then
                    r0 false
                  else
                  bif (!decide (v871 = 0)) then
                    r0 false
                  else
                  bif (!decide ((w64 (v864 * v868)) = v870)) then
                    r0 false
                  else
                    F19 k code fun v872 v873 =>
                    F20 k v872 v873 fun v874 v875 v876 =>
                    F21 k v872 v873 fun v877 v878 v879 =>
                    F22 k code fun v880 v881 v882 v883 v884 =>
                    F23 k v880 v881 v882 v883 v884 fun v885 v886 v887 =>
                    F24 k v880 v881 v882 v883 v884 fun v888 v889 v890 =>
                    F25 k code fun v891 v892 v893 v894 v895 v896 =>
                    F10 k v891 v892 v893 v894 v895 v896 fun v897 v898 v899 =>
                    F26 k v891 v892 v893 v894 v895 v896 fun v900 v901 v902 =>
                    F27 k code fun v903 v904 v905 v906 v907 v908 v909 v910 =>
                    F9 k v903 v904 v905 v906 v907 v908 v909 v910 fun v911 v912 v913 v914 v915 =>
                    F28 k v903 v904 v905 v906 v907 v908 v909 v910 fun v916 v917 v918 v919 v920 =>
                    F29 k code fun v921 v922 v923 v924 =>
                    F11 k v921 v922 v923 v924 fun v925 v926 =>
                    F30 k v921 v922 v923 v924 fun v927 v928 =>
                    bif decide (v876 = v879) then
                      bif (decide (v874 = v877) && decide (v875 = v878)) then
                        bif decide (v887 = v890) then
                          bif (decide (v885 = v888) && decide (v886 = v889)) then
                            bif decide (v899 = v902) then
                              bif (decide (v897 = v900) && decide (v898 = v901)) then
                                bif decide (v915 = v920) then
                                  bif (decide (v911 = v916) && (decide (v912 = v917) && (decide (v913 = v918) && decide (v914 = v919)))) then
                                    bif decide (v926 = v928) then
                                      r0 (decide (v925 = v927))
                                    else
                                      r0 false
                                  else
                                    r0 false
                                else
                                  r0 false
                              else
                                r0 false
                            else
                              r0 false
                          else
                            r0 false
                        else
                          r0 false
                      else
                        r0 false
                    else
                      r0 false
                else
                  F19 k code fun v929 v930 =>
                  F20 k v929 v930 fun v931 v932 v933 =>
                  F21 k v929 v930 fun v934 v935 v936 =>
                  F22 k code fun v937 v938 v939 v940 v941 =>
                  F23 k v937 v938 v939 v940 v941 fun v942 v943 v944 =>
                  F24 k v937 v938 v939 v940 v941 fun v945 v946 v947 =>
                  F25 k code fun v948 v949 v950 v951 v952 v953 =>
                  F10 k v948 v949 v950 v951 v952 v953 fun v954 v955 v956 =>
                  F26 k v948 v949 v950 v951 v952 v953 fun v957 v958 v959 =>
                  F27 k code fun v960 v961 v962 v963 v964 v965 v966 v967 =>
                  F9 k v960 v961 v962 v963 v964 v965 v966 v967 fun v968 v969 v970 v971 v972 =>
                  F28 k v960 v961 v962 v963 v964 v965 v966 v967 fun v973 v974 v975 v976 v977 =>
                  F29 k code fun v978 v979 v980 v981 =>
                  F11 k v978 v979 v980 v981 fun v982 v983 =>
                  F30 k v978 v979 v980 v981 fun v984 v985 =>
                  bif decide (v933 = v936) then
                    bif (decide (v931 = v934) && decide (v932 = v935)) then
                      bif decide (v944 = v947) then
                        bif (decide (v942 = v945) && decide (v943 = v946)) then
                          bif decide (v956 = v959) then
                            bif (decide (v954 = v957) && decide (v955 = v958)) then
                              bif decide (v972 = v977) then
                                bif (decide (v968 = v973) && (decide (v969 = v974) && (decide (v970 = v975) && decide (v971 = v976)))) then
                                  bif decide (v983 = v985) then
                                    r0 (decide (v982 = v984))
                                  else
                                    r0 false
                                else
                                  r0 false
                              else
                                r0 false
                            else
                              r0 false
                          else
                            r0 false
                        else
                          r0 false
                      else
                        r0 false
                    else
                      r0 false
                  else
                    r0 false
            else
              F16 k code fun v986 v987 v988 v989 v990 v991 =>
              F17 k v986 v987 v988 v989 v990 v991 fun v992 v993 =>
              F18 k v986 v987 v988 v989 v990 v991 fun v994 v995 =>
              bif (!decide (v993 = v995)) then
                r0 false
              else
              bif (!decide (v992 = v994)) then
                r0 false
              else
              bif decide (v993 = 0) then
                F11 k v986 v987 v988 v989 fun v996 v997 =>
                F5 k v986 v987 v988 v989 v990 v991 fun v998 v999 =>
                bif (!decide (v997 = 0)) then
                  r0 false
                else
                bif (!decide (v999 = 0)) then
                  r0 false
                else
                bif (!decide ((w64 (v992 * v996)) = v998)) then
                  r0 false
                else
                  F19 k code fun v1000 v1001 =>
                  F20 k v1000 v1001 fun v1002 v1003 v1004 =>
                  F21 k v1000 v1001 fun v1005 v1006 v1007 =>
                  F22 k code fun v1008 v1009 v1010 v1011 v1012 =>
                  F23 k v1008 v1009 v1010 v1011 v1012 fun v1013 v1014 v1015 =>
                  F24 k v1008 v1009 v1010 v1011 v1012 fun v1016 v1017 v1018 =>
                  F25 k code fun v1019 v1020 v1021 v1022 v1023 v1024 =>
                  F10 k v1019 v1020 v1021 v1022 v1023 v1024 fun v1025 v1026 v1027 =>
                  F26 k v1019 v1020 v1021 v1022 v1023 v1024 fun v1028 v1029 v1030 =>
                  F27 k code fun v1031 v1032 v1033 v1034 v1035 v1036 v1037 v1038 =>
                  F9 k v1031 v1032 v1033 v1034 v1035 v1036 v1037 v1038 fun v1039 v1040 v1041 v1042 v1043 =>
                  F28 k v1031 v1032 v1033 v1034 v1035 v1036 v1037 v1038 fun v1044 v1045 v1046 v1047 v1048 =>
                  F29 k code fun v1049 v1050 v1051 v1052 =>
                  F11 k v1049 v1050 v1051 v1052 fun v1053 v1054 =>
                  F30 k v1049 v1050 v1051 v1052 fun v1055 v1056 =>
                  bif decide (v1004 = v1007) then
                    bif (decide (v1002 = v1005) && decide (v1003 = v1006)) then
                      bif decide (v1015 = v1018) then
                        bif (decide (v1013 = v1016) && decide (v1014 = v1017)) then
                          bif decide (v1027 = v1030) then
                            bif (decide (v1025 = v1028) && decide (v1026 = v1029)) then
                              bif decide (v1043 = v1048) then
                                bif (decide (v1039 = v1044) && (decide (v1040 = v1045) && (decide (v1041 = v1046) && decide (v1042 = v1047)))) then
                                  bif decide (v1054 = v1056) then
                                    r0 (decide (v1053 = v1055))
                                  else
                                    r0 false
                                else
                                  r0 false
                              else
                                r0 false
                            else
                              r0 false
                          else
                            r0 false
                        else
                          r0 false
                      else
                        r0 false
                    else
                      r0 false
                  else
                    r0 false
              else
                F19 k code fun v1057 v1058 =>
                F20 k v1057 v1058 fun v1059 v1060 v1061 =>
                F21 k v1057 v1058 fun v1062 v1063 v1064 =>
                F22 k code fun v1065 v1066 v1067 v1068 v1069 =>
                F23 k v1065 v1066 v1067 v1068 v1069 fun v1070 v1071 v1072 =>
                F24 k v1065 v1066 v1067 v1068 v1069 fun v1073 v1074 v1075 =>
                F25 k code fun v1076 v1077 v1078 v1079 v1080 v1081 =>
                F10 k v1076 v1077 v1078 v1079 v1080 v1081 fun v1082 v1083 v1084 =>
                F26 k v1076 v1077 v1078 v1079 v1080 v1081 fun v1085 v1086 v1087 =>
                F27 k code fun v1088 v1089 v1090 v1091 v1092 v1093 v1094 v1095 =>
                F9 k v1088 v1089 v1090 v1091 v1092 v1093 v1094 v1095 fun v1096 v1097 v1098 v1099 v1100 =>
                F28 k v1088 v1089 v1090 v1091 v1092 v1093 v1094 v1095 fun v1101 v1102 v1103 v1104 v1105 =>
                F29 k code fun v1106 v1107 v1108 v1109 =>
                F11 k v1106 v1107 v1108 v1109 fun v1110 v1111 =>
                F30 k v1106 v1107 v1108 v1109 fun v1112 v1113 =>
                bif decide (v1061 = v1064) then
                  bif (decide (v1059 = v1062) && decide (v1060 = v1063)) then
                    bif decide (v1072 = v1075) then
                      bif (decide (v1070 = v1073) && decide (v1071 = v1074)) then
                        bif decide (v1084 = v1087) then
                          bif (decide (v1082 = v1085) && decide (v1083 = v1086)) then
                            bif decide (v1100 = v1105) then
                              bif (decide (v1096 = v1101) && (decide (v1097 = v1102) && (decide (v1098 = v1103) && decide (v1099 = v1104)))) then
                                bif decide (v1111 = v1113) then
                                  r0 (decide (v1110 = v1112))
                                else
                                  r0 false
                              else
                                r0 false
                            else
                              r0 false
                          else
                            r0 false
                        else
                          r0 false
                      else
                        r0 false
                    else
                      r0 false
                  else
                    r0 false
                else
                  r0 false
      else
        F12 k code fun v1114 v1115 =>
        F13 k v1114 v1115 fun v1116 v1117 v1118 =>
        F14 k v1114 v1115 fun v1119 v1120 v1121 =>
        bif (!decide (v1118 = v1121)) then
          r0 false
        else
        bif (!(decide (v1116 = v1119) && decide (v1117 = v1120))) then
          r0 false
        else
        bif decide (v1118 = 0) then
          F15 k v1114 v1115 v1116 v1117 fun v1122 v1123 =>
          bif (!decide (v1123 = 0)) then
            r0 false
          else
          bif (!decide (v1122 = 1)) then
            r0 false
          else
            F16 k code fun v1124 v1125 v1126 v1127 v1128 v1129 =>
            F17 k v1124 v1125 v1126 v1127 v1128 v1129 fun v1130 v1131 =>
            F18 k v1124 v1125 v1126 v1127 v1128 v1129 fun v1132 v1133 =>
            bif (!decide (v1131 = v1133)) then
              r0 false
            else
            bif (!decide (v1130 = v1132)) then
              r0 false
            else
            bif decide (v1131 = 0) then
              F11 k v1124 v1125 v1126 v1127 fun v1134 v1135 =>
              F5 k v1124 v1125 v1126 v1127 v1128 v1129 fun v1136 v1137 =>
              bif (!decide (v1135 = 0)) then
                r0 false
              else
              bif (!decide (v1137 = 0)) then
                r0 false
              else
              bif (!decide ((w64 (v1130 * v1134)) = v1136)) then
                r0 false
              else
                F19 k code fun v1138 v1139 =>
                F20 k v1138 v1139 fun v1140 v1141 v1142 =>
                F21 k v1138 v1139 fun v1143 v1144 v1145 =>
                F22 k code fun v1146 v1147 v1148 v1149 v1150 =>
                F23 k v1146 v1147 v1148 v1149 v1150 fun v1151 v1152 v1153 =>
                F24 k v1146 v1147 v1148 v1149 v1150 fun v1154 v1155 v1156 =>
                F25 k code fun v1157 v1158 v1159 v1160 v1161 v1162 =>
                F10 k v1157 v1158 v1159 v1160 v1161 v1162 fun v1163 v1164 v1165 =>
                F26 k v1157 v1158 v1159 v1160 v1161 v1162 fun v1166 v1167 v1168 =>
                F27 k code fun v1169 v1170 v1171 v1172 v1173 v1174 v1175 v1176 =>
                F9 k v1169 v1170 v1171 v1172 v1173 v1174 v1175 v1176 fun v1177 v1178 v1179 v1180 v1181 =>
                F28 k v1169 v1170 v1171 v1172 v1173 v1174 v1175 v1176 fun v1182 v1183 v1184 v1185 v1186 =>
                F29 k code fun v1187 v1188 v1189 v1190 =>
                F11 k v1187 v1188 v1189 v1190 fun v1191 v1192 =>
                F30 k v1187 v1188 v1189 v1190 fun v1193 v1194 =>
                bif decide (v1142 = v1145) then
                  bif (decide (v1140 = v1143) && decide (v1141 = v1144)) then
                    bif decide (v1153 = v1156) then
                      bif (decide (v1151 = v1154) && decide (v1152 = v1155)) then
                        bif decide (v1165 = v1168) then
                          bif (decide (v1163 = v1166) && decide (v1164 = v1167)) then
                            bif decide (v1181 = v1186) then
                              bif (decide (v1177 = v1182) && (decide (v1178 = v1183) && (decide (v1179 = v1184) && decide (v1180 = v1185)))) then
                                bif decide (v1192 = v1194) then
                                  r0 (decide (v1191 = v1193))
                                else
                                  r0 false
                              else
                                r0 false
                            else
                              r0 false
                          else
                            r0 false
                        else
                          r0 false
                      else
                        r0 false
                    else
                      r0 false
                  else
                    r0 false
                else
                  r0 false
            else
              F19 k code fun v1195 v1196 =>
              F20 k v1195 v1196 fun v1197 v1198 v1199 =>
              F21 k v1195 v1196 fun v1200 v1201 v1202 =>
              F22 k code fun v1203 v1204 v1205 v1206 v1207 =>
              F23 k v1203 v1204 v1205 v1206 v1207 fun v1208 v1209 v1210 =>
              F24 k v1203 v1204 v1205 v1206 v1207 fun v1211 v1212 v1213 =>
              F25 k code fun v1214 v1215 v1216 v1217 v1218 v1219 =>
              F10 k v1214 v1215 v1216 v1217 v1218 v1219 fun v1220 v1221 v1222 =>
              F26 k v1214 v1215 v1216 v1217 v1218 v1219 fun v1223 v1224 v1225 =>
              F27 k code fun v1226 v1227 v1228 v1229 v1230 v1231 v1232 v1233 =>
              F9 k v1226 v1227 v1228 v1229 v1230 v1231 v1232 v1233 fun v1234 v1235 v1236 v1237 v1238 =>
              F28 k v1226 v1227 v1228 v1229 v1230 v1231 v1232 v1233 fun v1239 v1240 v1241 v1242 v1243 =>
              F29 k code fun v1244 v1245 v1246 v1247 =>
              F11 k v1244 v1245 v1246 v1247 fun v1248 v1249 =>
              F30 k v1244 v1245 v1246 v1247 fun v1250 v1251 =>
              bif decide (v1199 = v1202) then
                bif (decide (v1197 = v1200) && decide (v1198 = v1201)) then
                  bif decide (v1210 = v1213) then
                    bif (decide (v1208 = v1211) && decide (v1209 = v1212)) then
                      bif decide (v1222 = v1225) then
                        bif (decide (v1220 = v1223) && decide (v1221 = v1224)) then
                          bif decide (v1238 = v1243) then
                            bif (decide (v1234 = v1239) && (decide (v1235 = v1240) && (decide (v1236 = v1241) && decide (v1237 = v1242)))) then
                              bif decide (v1249 = v1251) then
                                r0 (decide (v1248 = v1250))
                              else
                                r0 false
                            else
                              r0 false
                          else
                            r0 false
                        else
                          r0 false
                      else
                        r0 false
                    else
                      r0 false
                  else
                    r0 false
                else
                  r0 false
              else
                r0 false
        else
          F16 k code fun v1252 v1253 v1254 v1255 v1256 v1257 =>
          F17 k v1252 v1253 v1254 v1255 v1256 v1257 fun v1258 v1259 =>
          F18 k v1252 v1253 v1254 v1255 v1256 v1257 fun v1260 v1261 =>
          bif (!decide (v1259 = v1261)) then
            r0 false
          else
          bif (!decide (v1258 = v1260)) then
            r0 false
          else
          bif decide (v1259 = 0) then
            F11 k v1252 v1253 v1254 v1255 fun v1262 v1263 =>
            F5 k v1252 v1253 v1254 v1255 v1256 v1257 fun v1264 v1265 =>
            bif (!decide (v1263 = 0)) then
              r0 false
            else
            bif (!decide (v1265 = 0)) then
              r0 false
            else
            bif (!decide ((w64 (v1258 * v1262)) = v1264)) then
              r0 false
            else
              F19 k code fun v1266 v1267 =>
              F20 k v1266 v1267 fun v1268 v1269 v1270 =>
              F21 k v1266 v1267 fun v1271 v1272 v1273 =>
              F22 k code fun v1274 v1275 v1276 v1277 v1278 =>
              F23 k v1274 v1275 v1276 v1277 v1278 fun v1279 v1280 v1281 =>
              F24 k v1274 v1275 v1276 v1277 v1278 fun v1282 v1283 v1284 =>
              F25 k code fun v1285 v1286 v1287 v1288 v1289 v1290 =>
              F10 k v1285 v1286 v1287 v1288 v1289 v1290 fun v1291 v1292 v1293 =>
              F26 k v1285 v1286 v1287 v1288 v1289 v1290 fun v1294 v1295 v1296 =>
              F27 k code fun v1297 v1298 v1299 v1300 v1301 v1302 v1303 v1304 =>
              F9 k v1297 v1298 v1299 v1300 v1301 v1302 v1303 v1304 fun v1305 v1306 v1307 v1308 v1309 =>
              F28 k v1297 v1298 v1299 v1300 v1301 v1302 v1303 v1304 fun v1310 v1311 v1312 v1313 v1314 =>
              F29 k code fun v1315 v1316 v1317 v1318 =>
              F11 k v1315 v1316 v1317 v1318 fun v1319 v1320 =>
              F30 k v1315 v1316 v1317 v1318 fun v1321 v1322 =>
              bif decide (v1270 = v1273) then
                bif (decide (v1268 = v1271) && decide (v1269 = v1272)) then
                  bif decide (v1281 = v1284) then
                    bif (decide (v1279 = v1282) && decide (v1280 = v1283)) then
                      bif decide (v1293 = v1296) then
                        bif (decide (v1291 = v1294) && decide (v1292 = v1295)) then
                          bif decide (v1309 = v1314) then
                            bif (decide (v1305 = v1310) && (decide (v1306 = v1311) && (decide (v1307 = v1312) && decide (v1308 = v1313)))) then
                              bif decide (v1320 = v1322) then
                                r0 (decide (v1319 = v1321))
                              else
                                r0 false
                            else
                              r0 false
                          else
                            r0 false
                        else
                          r0 false
                      else
                        r0 false
                    else
                      r0 false
                  else
                    r0 false
                else
                  r0 false
              else
                r0 false
          else
            F19 k code fun v1323 v1324 =>
            F20 k v1323 v1324 fun v1325 v1326 v1327 =>
            F21 k v1323 v1324 fun v1328 v1329 v1330 =>
            F22 k code fun v1331 v1332 v1333 v1334 v1335 =>
            F23 k v1331 v1332 v1333 v1334 v1335 fun v1336 v1337 v1338 =>
            F24 k v1331 v1332 v1333 v1334 v1335 fun v1339 v1340 v1341 =>
            F25 k code fun v1342 v1343 v1344 v1345 v1346 v1347 =>
            F10 k v1342 v1343 v1344 v1345 v1346 v1347 fun v1348 v1349 v1350 =>
            F26 k v1342 v1343 v1344 v1345 v1346 v1347 fun v1351 v1352 v1353 =>
            F27 k code fun v1354 v1355 v1356 v1357 v1358 v1359 v1360 v1361 =>
            F9 k v1354 v1355 v1356 v1357 v1358 v1359 v1360 v1361 fun v1362 v1363 v1364 v1365 v1366 =>
            F28 k v1354 v1355 v1356 v1357 v1358 v1359 v1360 v1361 fun v1367 v1368 v1369 v1370 v1371 =>
            F29 k code fun v1372 v1373 v1374 v1375 =>
            F11 k v1372 v1373 v1374 v1375 fun v1376 v1377 =>
            F30 k v1372 v1373 v1374 v1375 fun v1378 v1379 =>
            bif decide (v1327 = v1330) then
              bif (decide (v1325 = v1328) && decide (v1326 = v1329)) then
                bif decide (v1338 = v1341) then
                  bif (decide (v1336 = v1339) && decide (v1337 = v1340)) then
                    bif decide (v1350 = v1353) then
                      bif (decide (v1348 = v1351) && decide (v1349 = v1352)) then
                        bif decide (v1366 = v1371) then
                          bif (decide (v1362 = v1367) && (decide (v1363 = v1368) && (decide (v1364 = v1369) && decide (v1365 = v1370)))) then
                            bif decide (v1377 = v1379) then
                              r0 (decide (v1376 = v1378))
                            else
                              r0 false
                          else
                            r0 false
                        else
                          r0 false
                      else
                        r0 false
                    else
                      r0 false
                  else
                    r0 false
                else
                  r0 false
              else
                r0 false
            else
              r0 false
def laws_FnPointMaps {α : Type} (k : Nat) (code : List Int) (r0 : Bool → Option α) : Option α := laws_FnPointMaps_F laws_big spec_DrawInverseMatrix impl_InverseMatrix spec_InverseMatrix spec_DrawAreaOf impl_AreaOf spec_AreaOf impl_IsMatrix spec_IsMatrix impl_MultiplyMatrices impl_ApplyMatrix impl_LengthOf spec_DrawMateOf impl_MateOf spec_MateOf impl_DeterminantOf spec_DrawDistanceOf impl_DistanceOf spec_DistanceOf spec_DrawPrimitiveOf impl_PrimitiveOf spec_PrimitiveOf spec_DrawAddPoints impl_AddPoints spec_AddPoints spec_DrawApplyMatrix spec_ApplyMatrix spec_DrawMultiplyMatrices spec_MultiplyMatrices spec_DrawLengthOf spec_LengthOf k code r0

end Go.Sh
