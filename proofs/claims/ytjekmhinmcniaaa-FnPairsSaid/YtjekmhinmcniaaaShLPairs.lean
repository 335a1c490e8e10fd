/- The program's functions, read without memory: printed by a program of ours. -/
import Derived.Test.YtjekmhinmcniaaaMaB
namespace Go.Sh
open Go Go.Ev

/-- loop.example/g01297/laws.big -/
def laws_big {α : Type} (k : Nat) (code : List Int) (r0 : Bool → Option α) : Option α :=
  r0 (decide (4096 < (((List.length code) : Nat) : Int)))

def spec_l01From_l3 {α : Type} : Nat → Int → List Int → Int → Int → (Int → List Int → Int → Int → Option α) → (Int → Int → Option α) → Option α
  | 0, _, _, _, _, _, _ => none
  | k + 1, i, code1, s, s1, b0, r0 =>
    bif decide (i < (((List.length code1) : Nat) : Int)) then
      bif decide (i < 4096) then
        bif (decide (0 ≤ i) && decide (i < (((List.length code1) : Nat) : Int))) then
          (code1[i.toNat]?).bind fun e_ =>
          spec_l01From_l3 k (w64 (i + 1)) code1 s (IntKind.wrap .u64 ((IntKind.wrap .u64 ((IntKind.wrap .u64 (s1 * 1099511628211)) + (IntKind.wrap .u64 e_))) + 107)) b0 r0
        else
          none
      else
        b0 i code1 s s1
    else
      b0 i code1 s s1

/-- loop.example/g01297/spec.l01From -/
def spec_l01From {α : Type} (k : Nat) (code : List Int) (r0 : Int → Int → Option α) : Option α :=
  spec_l01From_l3 k 0 code 0 (IntKind.wrap .u64 (12971 + (IntKind.wrap .u64 (((List.length code) : Nat) : Int))))
    (fun i1 code2 s2 s3 =>
      r0 s2 s3)
    r0

/-- loop.example/g01297/spec.l01Next -/
def spec_l01Next {α : Type} (k : Nat) (s : List Int) (s1 : Int) (s2 : Int) (n_ : Int) (r0 : Int → Int → Int → Option α) : Option α :=
  bif decide (n_ < 1) then
    r0 0 s1 s2
  else
  bif decide (s1 < (((List.length s) : Nat) : Int)) then
    bif (decide (0 ≤ s1) && decide (s1 < (((List.length s) : Nat) : Int))) then
      (s[s1.toNat]?).bind fun e_ =>
      bif decide (n_ = 0) then
        none
      else
        r0 (Int.tmod (w64 ((w64 (IntKind.wrap .u64 ((BitVec.ofInt 64 (Int.fdiv (IntKind.wrap .u64 ((IntKind.wrap .u64 (s2 * 6364136223846793005)) + 1442695040888963407)) (2 ^ 31)) &&& BitVec.ofInt 64 1073741823).toNat))) + (w64 e_))) n_) (w64 (s1 + 1)) (IntKind.wrap .u64 ((IntKind.wrap .u64 (s2 * 6364136223846793005)) + 1442695040888963407))
    else
      none
  else
  bif decide (n_ = 0) then
    none
  else
    r0 (Int.tmod (w64 (IntKind.wrap .u64 ((BitVec.ofInt 64 (Int.fdiv (IntKind.wrap .u64 ((IntKind.wrap .u64 (s2 * 6364136223846793005)) + 1442695040888963407)) (2 ^ 31)) &&& BitVec.ofInt 64 1073741823).toNat))) n_) s1 (IntKind.wrap .u64 ((IntKind.wrap .u64 (s2 * 6364136223846793005)) + 1442695040888963407))

/-- loop.example/g01297/spec.l01Pick -/
def spec_l01Pick {α : Type} (k : Nat) (s : List Int) (s1 : Int) (s2 : Int) (list : List Int) (r0 : Int → Int → Int → Option α) : Option α :=
  spec_l01Next k s s1 s2 (((List.length list) : Nat) : Int) fun v v1 v2 =>
  bif (decide (0 ≤ v) && decide (v < (((List.length list) : Nat) : Int))) then
    (list[v.toNat]?).bind fun e_ =>
    r0 e_ v1 v2
  else
    none

/-- loop.example/g01297/spec.l01Size -/
def spec_l01Size {α : Type} (k : Nat) (s : List Int) (s1 : Int) (s2 : Int) (r0 : Int → Int → Int → Option α) : Option α :=
  spec_l01Pick k s s1 s2 [3, 6, 12, 100, 1000, 1000000] fun v v1 v2 =>
  r0 v v1 v2

/-- loop.example/g01297/spec.l01DrawPoint -/
def spec_l01DrawPoint {α : Type} (k : Nat) (s : List Int) (s1 : Int) (s2 : Int) (most : Int) (r0 : Int → Int → Int → Int → Option α) : Option α :=
  spec_l01Next k s s1 s2 (w64 ((w64 (2 * most)) + 1)) fun v v1 v2 =>
  spec_l01Next k s v1 v2 (w64 ((w64 (2 * most)) + 1)) fun v3 v4 v5 =>
  r0 (w64 (v - most)) (w64 (v3 - most)) v4 v5

/-- loop.example/g01297/spec.l01Bad -/
def spec_l01Bad {α : Type} (k : Nat) (s : List Int) (s1 : Int) (s2 : Int) (a : Int) (a1 : Int) (r0 : Int → Int → Int → Int → Option α) : Option α :=
  spec_l01Next k s s1 s2 40 fun v v1 v2 =>
  bif decide (v = 0) then
    spec_l01Next k s v1 v2 2 fun v3 v4 v5 =>
    spec_l01Pick k s v4 v5 [1000001, (-1000001), 1099511627776] fun v6 v7 v8 =>
    bif (decide (0 ≤ v3) && decide (v3 < 2)) then
      ([a, a1][v3.toNat]?).bind fun _ =>
      ((List.set [a, a1] v3.toNat v6)[0]?).bind fun e_ =>
      ((List.set [a, a1] v3.toNat v6)[1]?).bind fun e_1 =>
      r0 e_ e_1 v7 v8
    else
      none
  else
    r0 a a1 v1 v2

/-- loop.example/g01297/spec.l01Spoil -/
def spec_l01Spoil {α : Type} (k : Nat) (s : List Int) (s1 : Int) (s2 : Int) (r0 : Int → Int → Int → Int → Option α) : Option α :=
  spec_l01Size k s s1 s2 fun v v1 v2 =>
  spec_l01DrawPoint k s v1 v2 v fun v3 v4 v5 v6 =>
  spec_l01Bad k s v5 v6 v3 v4 fun v7 v8 v9 v10 =>
  r0 v7 v8 v9 v10

/-- loop.example/g01297/spec.l10Points -/
def spec_l10Points {α : Type} (k : Nat) (code : List Int) (r0 : Int → Int → Int → Int → Option α) : Option α :=
  spec_l01From k code fun v v1 =>
  spec_l01Size k code v v1 fun v2 v3 v4 =>
  spec_l01DrawPoint k code v3 v4 v2 fun v5 v6 v7 v8 =>
  spec_l01DrawPoint k code v7 v8 v2 fun v9 v10 v11 v12 =>
  spec_l01Next k code v11 v12 12 fun v13 v14 v15 =>
  bif decide (v13 = 0) then
    r0 v5 v6 v5 v6
  else
  bif decide (v13 = 1) then
    spec_l01Spoil k code v14 v15 fun v16 v17 v18 v19 =>
    r0 v16 v17 v9 v10
  else
    r0 v5 v6 v9 v10

/-- loop.example/g01297/spec.DrawReducePair -/
def spec_DrawReducePair {α : Type} (k : Nat) (code : List Int) (r0 : Int → Int → Int → Int → Option α) : Option α :=
  spec_l10Points k code fun v v1 v2 v3 =>
  r0 v v1 v2 v3

/-- loop.example/g01297/impl.in -/
def impl_in {α : Type} (k : Nat) (n_ : Int) (low : Int) (high : Int) (r0 : Bool → Option α) : Option α :=
  bif decide (low ≤ n_) then
    r0 (decide (n_ ≤ high))
  else
    r0 false

/-- loop.example/g01297/impl.isCoord -/
def impl_isCoord {α : Type} (k : Nat) (n_ : Int) (r0 : Bool → Option α) : Option α :=
  impl_in k n_ (-1000000) 1000000 fun v =>
  r0 v

/-- loop.example/g01297/impl.IsPoint -/
def impl_IsPoint {α : Type} (k : Nat) (a : Int) (a1 : Int) (r0 : Bool → Option α) : Option α :=
  impl_isCoord k a fun v =>
  bif v then
    impl_isCoord k a1 fun v1 =>
    r0 v1
  else
    r0 false

/-- loop.example/g01297/impl.points$1 -/
def impl_points_1 {α : Type} (k : Nat) (a : Int) (a1 : Int) (r0 : Bool → Option α) : Option α :=
  impl_IsPoint k a a1 fun v =>
  r0 (!v)

def slices_IndexFunc_impl_Point_impl_Point_1F_impl_points_1_l2 {α : Type} : Nat → Int → Int → (List (Int × Int)) → (Int → Int → (List (Int × Int)) → Option α) → (Int → Option α) → Option α
  | 0, _, _, _, _, _ => none
  | k + 1, x, x1, s1, b0, r0 =>
    bif decide (x1 < x) then
      bif (decide (0 ≤ x1) && decide (x1 < (((List.length s1) : Nat) : Int))) then
        (s1[x1.toNat]?).bind fun e_ =>
        impl_points_1 k e_.1 e_.2 fun v =>
        bif v then
          r0 x1
        else
          slices_IndexFunc_impl_Point_impl_Point_1F_impl_points_1_l2 k x (w64 (x1 + 1)) s1 b0 r0
      else
        none
    else
      b0 x x1 s1

/-- slices.IndexFunc[[]loop.example/g01297/impl.Point,loop.example/g01297/impl.Point] -/
def slices_IndexFunc_impl_Point_impl_Point_1F_impl_points_1 {α : Type} (k : Nat) (s : List (Int × Int)) (r0 : Int → Option α) : Option α :=
  slices_IndexFunc_impl_Point_impl_Point_1F_impl_points_1_l2 k (((List.length s) : Nat) : Int) 0 s
    (fun x2 x3 s2 =>
      r0 (-1))
    r0

/-- slices.ContainsFunc[[]loop.example/g01297/impl.Point,loop.example/g01297/impl.Point] -/
def slices_ContainsFunc_impl_Point_impl_Point_1F_impl_points_1 {α : Type} (k : Nat) (s : List (Int × Int)) (r0 : Bool → Option α) : Option α :=
  slices_IndexFunc_impl_Point_impl_Point_1F_impl_points_1 k s fun v =>
  r0 (decide (0 ≤ v))

/-- loop.example/g01297/impl.points -/
def impl_points {α : Type} (k : Nat) (list : List (Int × Int)) (r0 : Bool → Option α) : Option α :=
  slices_ContainsFunc_impl_Point_impl_Point_1F_impl_points_1 k list fun v =>
  r0 (!v)

/-- loop.example/g01297/impl.det -/
def impl_det {α : Type} (k : Nat) (a : Int) (a1 : Int) (b_ : Int) (b_1 : Int) (r0 : Int → Option α) : Option α :=
  r0 (w64 ((w64 (a * b_1)) - (w64 (a1 * b_))))

/-- loop.example/g01297/impl.pairFault -/
def impl_pairFault {α : Type} (k : Nat) (a : Int) (a1 : Int) (b_ : Int) (b_1 : Int) (r0 : Int → Option α) : Option α :=
  impl_points k [(a, a1), (b_, b_1)] fun v =>
  bif (!v) then
    r0 1
  else
    impl_det k a a1 b_ b_1 fun v1 =>
    bif decide (v1 = 0) then
      r0 5
    else
      r0 0

/-- loop.example/g01297/impl.dot -/
def impl_dot {α : Type} (k : Nat) (a : Int) (a1 : Int) (b_ : Int) (b_1 : Int) (r0 : Int → Option α) : Option α :=
  r0 (w64 ((w64 (a * b_)) + (w64 (a1 * b_1))))

/-- (loop.example/g01297/impl.Point).norm -/
def impl_Point_norm {α : Type} (k : Nat) (a : Int) (a1 : Int) (r0 : Int → Option α) : Option α :=
  impl_dot k a a1 a a1 fun v =>
  r0 v

/-- loop.example/g01297/impl.size -/
def impl_size {α : Type} (k : Nat) (n_ : Int) (r0 : Int → Option α) : Option α :=
  r0 (max n_ (w64 (0 - n_)))

/-- loop.example/g01297/impl.isReduced -/
def impl_isReduced {α : Type} (k : Nat) (a : Int) (a1 : Int) (b_ : Int) (b_1 : Int) (r0 : Bool → Option α) : Option α :=
  impl_Point_norm k a a1 fun v =>
  impl_Point_norm k b_ b_1 fun v1 =>
  bif decide (v ≤ v1) then
    impl_dot k a a1 b_ b_1 fun v2 =>
    impl_size k v2 fun v3 =>
    impl_Point_norm k a a1 fun v4 =>
    r0 (decide ((w64 (2 * v3)) ≤ v4))
  else
    r0 false

/-- loop.example/g01297/impl.floor -/
def impl_floor {α : Type} (k : Nat) (a : Int) (b_ : Int) (r0 : Int → Option α) : Option α :=
  bif decide (b_ = 0) then
    none
  else
  bif decide (b_ = 0) then
    none
  else
  bif (!decide ((Int.tmod a b_) = 0)) then
    bif (!(decide (a < 0) == decide (b_ < 0))) then
      r0 (w64 ((w64 (Int.tdiv a b_)) - 1))
    else
      r0 (w64 (Int.tdiv a b_))
  else
    r0 (w64 (Int.tdiv a b_))

/-- (loop.example/g01297/impl.Point).plus -/
def impl_Point_plus {α : Type} (k : Nat) (a : Int) (a1 : Int) (b_ : Int) (b_1 : Int) (k_ : Int) (r0 : Int → Int → Option α) : Option α :=
  r0 (w64 (a + (w64 (k_ * b_)))) (w64 (a1 + (w64 (k_ * b_1))))

def impl_ReducePair_l4 {α : Type} : Nat → Int → Int → Int → Int → (Int → Int → Int → Int → Option α) → (Int → Option α) → ((List (Int × Int)) → Int → Option α) → Option α
  | 0, _, _, _, _, _, _, _ => none
  | k + 1, a2, a3, b_2, b_3, b0, r0, r1 =>
    impl_isReduced k a2 a3 b_2 b_3 fun v1 =>
    bif (!v1) then
      impl_Point_norm k a2 a3 fun v2 =>
      impl_Point_norm k b_2 b_3 fun v3 =>
      bif decide (v3 < v2) then
        impl_ReducePair_l4 k b_2 b_3 a2 a3 b0 r0 r1
      else
        impl_dot k a2 a3 b_2 b_3 fun v4 =>
        impl_Point_norm k a2 a3 fun v5 =>
        impl_Point_norm k a2 a3 fun v6 =>
        impl_floor k (w64 ((w64 (2 * v4)) + v5)) (w64 (2 * v6)) fun v7 =>
        impl_Point_plus k b_2 b_3 a2 a3 (w64 (0 - v7)) fun v8 v9 =>
        impl_ReducePair_l4 k a2 a3 v8 v9 b0 r0 r1
    else
      b0 a2 a3 b_2 b_3

/-- loop.example/g01297/impl.ReducePair -/
def impl_ReducePair {α : Type} (k : Nat) (a : Int) (a1 : Int) (b_ : Int) (b_1 : Int) (r0 : Int → Option α) (r1 : (List (Int × Int)) → Int → Option α) : Option α :=
  impl_pairFault k a a1 b_ b_1 fun v =>
  bif (!decide (v = 0)) then
    r0 v
  else
    impl_ReducePair_l4 k a a1 b_ b_1
      (fun a4 a5 b_4 b_5 =>
        r1 [(a4, a5), (b_4, b_5)] 0)
      r0 r1

/-- loop.example/g01297/spec.l01In -/
def spec_l01In {α : Type} (k : Nat) (n_ : Int) (low : Int) (high : Int) (r0 : Bool → Option α) : Option α :=
  bif decide (low ≤ n_) then
    r0 (decide (n_ ≤ high))
  else
    r0 false

/-- loop.example/g01297/spec.l01Fits -/
def spec_l01Fits {α : Type} (k : Nat) (x : Int) (r0 : Bool → Option α) : Option α :=
  spec_l01In k x (-1000000) 1000000 fun v =>
  r0 v

/-- loop.example/g01297/spec.l01Is -/
def spec_l01Is {α : Type} (k : Nat) (a : Int) (a1 : Int) (r0 : Bool → Option α) : Option α :=
  spec_l01Fits k a fun v =>
  bif v then
    spec_l01Fits k a1 fun v1 =>
    r0 v1
  else
    r0 false

/-- loop.example/g01297/spec.l01Det -/
def spec_l01Det {α : Type} (k : Nat) (a : Int) (a1 : Int) (b_ : Int) (b_1 : Int) (r0 : Int → Option α) : Option α :=
  r0 (w64 ((w64 (a * b_1)) - (w64 (a1 * b_))))

/-- loop.example/g01297/spec.l10Pair -/
def spec_l10Pair {α : Type} (k : Nat) (a : Int) (a1 : Int) (b_ : Int) (b_1 : Int) (r0 : Int → Option α) : Option α :=
  spec_l01Is k a a1 fun v =>
  bif (!v) then
    r0 1
  else
    spec_l01Is k b_ b_1 fun v1 =>
    bif (!v1) then
      r0 1
    else
      spec_l01Det k a a1 b_ b_1 fun v2 =>
      bif decide (v2 = 0) then
        r0 5
      else
        r0 0

/-- loop.example/g01297/spec.l10Dot -/
def spec_l10Dot {α : Type} (k : Nat) (a : Int) (a1 : Int) (b_ : Int) (b_1 : Int) (r0 : Int → Option α) : Option α :=
  r0 (w64 ((w64 (a * b_)) + (w64 (a1 * b_1))))

/-- loop.example/g01297/spec.l10Reduced -/
def spec_l10Reduced {α : Type} (k : Nat) (a : Int) (a1 : Int) (b_ : Int) (b_1 : Int) (r0 : Bool → Option α) : Option α :=
  spec_l10Dot k a a1 b_ b_1 fun v =>
  spec_l10Dot k a a1 a a1 fun v1 =>
  spec_l10Dot k b_ b_1 b_ b_1 fun v2 =>
  bif decide (v1 ≤ v2) then
    spec_l10Dot k a a1 a a1 fun v3 =>
    r0 (decide ((max (w64 (2 * v)) (w64 (0 - (w64 (2 * v))))) ≤ v3))
  else
    r0 false

/-- loop.example/g01297/spec.l01Floor -/
def spec_l01Floor {α : Type} (k : Nat) (p_ : Int) (q_ : Int) (r0 : Int → Option α) : Option α :=
  bif decide (q_ = 0) then
    none
  else
  bif decide (q_ = 0) then
    none
  else
  bif (!decide ((Int.tmod p_ q_) = 0)) then
    bif (!(decide (p_ < 0) == decide (q_ < 0))) then
      r0 (w64 ((w64 (Int.tdiv p_ q_)) - 1))
    else
      r0 (w64 (Int.tdiv p_ q_))
  else
    r0 (w64 (Int.tdiv p_ q_))

/-- loop.example/g01297/spec.l01Plus -/
def spec_l01Plus {α : Type} (k : Nat) (a : Int) (a1 : Int) (b_ : Int) (b_1 : Int) (k_ : Int) (r0 : Int → Int → Option α) : Option α :=
  r0 (w64 (a + (w64 (k_ * b_)))) (w64 (a1 + (w64 (k_ * b_1))))

def spec_l10Reduce_l1 {α : Type} : Nat → Int → Int → Int → Int → Int → Int → Int → Int → (Int → Int → Int → Int → Int → Int → Int → Int → Option α) → (Int → Int → Int → Int → Option α) → Option α
  | 0, _, _, _, _, _, _, _, _, _, _ => none
  | k + 1, a2, a3, b_2, b_3, x, x1, x2, x3, b0, r0 =>
    spec_l10Reduced k a2 a3 b_2 b_3 fun v =>
    bif (!v) then
      spec_l10Dot k a2 a3 a2 a3 fun v1 =>
      spec_l10Dot k b_2 b_3 b_2 b_3 fun v2 =>
      bif decide (v2 < v1) then
        spec_l10Reduce_l1 k b_2 b_3 a2 a3 x x1 x2 x3 b0 r0
      else
        spec_l10Dot k a2 a3 a2 a3 fun v3 =>
        spec_l10Dot k a2 a3 b_2 b_3 fun v4 =>
        spec_l01Floor k (w64 ((w64 (2 * v4)) + v3)) (w64 (2 * v3)) fun v5 =>
        spec_l01Plus k b_2 b_3 a2 a3 (w64 (0 - v5)) fun v6 v7 =>
        spec_l10Reduce_l1 k a2 a3 v6 v7 x x1 x2 x3 b0 r0
    else
      b0 a2 a3 b_2 b_3 x x1 x2 x3

/-- loop.example/g01297/spec.l10Reduce -/
def spec_l10Reduce {α : Type} (k : Nat) (a : Int) (a1 : Int) (b_ : Int) (b_1 : Int) (r0 : Int → Int → Int → Int → Option α) : Option α :=
  spec_l10Reduce_l1 k a a1 b_ b_1 0 0 0 0
    (fun a4 a5 b_4 b_5 x4 x5 x6 x7 =>
      r0 a4 a5 b_4 b_5)
    r0

/-- loop.example/g01297/spec.ReducePair -/
def spec_ReducePair {α : Type} (k : Nat) (a : Int) (a1 : Int) (b_ : Int) (b_1 : Int) (r0 : Int → Option α) (r1 : (List (Int × Int)) → Int → Option α) : Option α :=
  spec_l10Pair k a a1 b_ b_1 fun v =>
  bif (!decide (v = 0)) then
    r0 v
  else
    spec_l10Reduce k a a1 b_ b_1 fun v1 v2 v3 v4 =>
    r1 [(v1, v2), (v3, v4)] 0

/-- loop.example/g01297/laws.points9 -/
def laws_points9_0N_1N {α : Type} (k : Nat)  (r0 : Bool → Option α) : Option α :=
  r0 true

/-- loop.example/g01297/spec.DrawIsReducedPair -/
def spec_DrawIsReducedPair {α : Type} (k : Nat) (code : List Int) (r0 : Int → Int → Int → Int → Option α) : Option α :=
  spec_l01From k code fun v v1 =>
  spec_l10Points k code fun v2 v3 v4 v5 =>
  spec_l10Pair k v2 v3 v4 v5 fun v6 =>
  bif decide (v6 = 0) then
    spec_l01Next k code v v1 2 fun v7 v8 v9 =>
    bif decide (v7 = 0) then
      spec_l10Reduce k v2 v3 v4 v5 fun v10 v11 v12 v13 =>
      r0 v10 v11 v12 v13
    else
      r0 v2 v3 v4 v5
  else
    r0 v2 v3 v4 v5

/-- loop.example/g01297/impl.IsReducedPair -/
def impl_IsReducedPair {α : Type} (k : Nat) (a : Int) (a1 : Int) (b_ : Int) (b_1 : Int) (r0 : Bool → Int → Option α) : Option α :=
  impl_pairFault k a a1 b_ b_1 fun v =>
  bif (!decide (v = 0)) then
    r0 false v
  else
    impl_isReduced k a a1 b_ b_1 fun v1 =>
    r0 v1 0

/-- loop.example/g01297/spec.IsReducedPair -/
def spec_IsReducedPair {α : Type} (k : Nat) (a : Int) (a1 : Int) (b_ : Int) (b_1 : Int) (r0 : Bool → Int → Option α) : Option α :=
  spec_l10Pair k a a1 b_ b_1 fun v =>
  bif (!decide (v = 0)) then
    r0 false v
  else
    spec_l10Reduced k a a1 b_ b_1 fun v1 =>
    r0 v1 0

/-- loop.example/g01297/spec.DrawShortestNorm -/
def spec_DrawShortestNorm {α : Type} (k : Nat) (code : List Int) (r0 : Int → Int → Int → Int → Option α) : Option α :=
  spec_l10Points k code fun v v1 v2 v3 =>
  r0 v v1 v2 v3

/-- loop.example/g01297/impl.ShortestNorm -/
def impl_ShortestNorm {α : Type} (k : Nat) (a : Int) (a1 : Int) (b_ : Int) (b_1 : Int) (r0 : Int → Int → Option α) : Option α :=
  impl_ReducePair k a a1 b_ b_1
    (fun v =>
      bif (!decide (v = 0)) then
        r0 0 v
      else
        none)
    (fun v1 v2 =>
      bif (!decide (v2 = 0)) then
        r0 0 v2
      else
      bif (true && decide (0 < (((List.length v1) : Nat) : Int))) then
        (v1[0]?).bind fun e_ =>
        impl_Point_norm k e_.1 e_.2 fun v3 =>
        r0 v3 0
      else
        none)

/-- loop.example/g01297/spec.ShortestNorm -/
def spec_ShortestNorm {α : Type} (k : Nat) (a : Int) (a1 : Int) (b_ : Int) (b_1 : Int) (r0 : Int → Int → Option α) : Option α :=
  spec_l10Pair k a a1 b_ b_1 fun v =>
  bif (!decide (v = 0)) then
    r0 0 v
  else
    spec_l10Reduce k a a1 b_ b_1 fun v1 v2 v3 v4 =>
    spec_l10Dot k v1 v2 v1 v2 fun v5 =>
    r0 v5 0

/-- loop.example/g01297/spec.DrawNormOf -/
def spec_DrawNormOf {α : Type} (k : Nat) (code : List Int) (r0 : Int → Int → Option α) : Option α :=
  spec_l01From k code fun v v1 =>
  spec_l01Spoil k code v v1 fun v2 v3 v4 v5 =>
  r0 v2 v3

/-- loop.example/g01297/impl.NormOf -/
def impl_NormOf {α : Type} (k : Nat) (a : Int) (a1 : Int) (r0 : Int → Int → Option α) : Option α :=
  impl_IsPoint k a a1 fun v =>
  bif (!v) then
    r0 0 1
  else
    impl_Point_norm k a a1 fun v1 =>
    r0 v1 0

/-- loop.example/g01297/spec.NormOf -/
def spec_NormOf {α : Type} (k : Nat) (a : Int) (a1 : Int) (r0 : Int → Int → Option α) : Option α :=
  spec_l01Is k a a1 fun v =>
  bif (!v) then
    r0 0 1
  else
    spec_l10Dot k a a1 a a1 fun v1 =>
    r0 v1 0

/-- loop.example/g01297/impl.DeterminantOf -/
def impl_DeterminantOf {α : Type} (k : Nat) (a : Int) (a1 : Int) (b_ : Int) (b_1 : Int) (r0 : Int → Int → Option α) : Option α :=
  impl_points k [(a, a1), (b_, b_1)] fun v =>
  bif (!v) then
    r0 0 1
  else
    impl_det k a a1 b_ b_1 fun v1 =>
    r0 v1 0

/-- loop.example/g01297/laws.points9 -/
def laws_points9_0N {α : Type} (k : Nat) (b_ : List (Int × Int)) (r0 : Bool → Option α) : Option α :=
  bif (!decide (0 = (((List.length b_) : Nat) : Int))) then
    r0 false
  else
    r0 true

def laws_points9_1N_l4 {α : Type} : Nat → Int → (List (Int × Int)) → (Int → (List (Int × Int)) → Option α) → (Bool → Option α) → Option α
  | 0, _, _, _, _ => none
  | k + 1, i, a1, b0, r0 =>
    bif decide (i < (((List.length a1) : Nat) : Int)) then
      bif (decide (0 ≤ i) && decide (i < (((List.length a1) : Nat) : Int))) then
        (a1[i.toNat]?).bind fun e_ =>
        none
      else
        none
    else
      b0 i a1

/-- loop.example/g01297/laws.points9 -/
def laws_points9_1N {α : Type} (k : Nat) (a : List (Int × Int)) (r0 : Bool → Option α) : Option α :=
  bif (!decide ((((List.length a) : Nat) : Int) = 0)) then
    r0 false
  else
    laws_points9_1N_l4 k 0 a
      (fun i1 a2 =>
        r0 true)
      r0

def laws_points9_l4 {α : Type} : Nat → Int → (List (Int × Int)) → (List (Int × Int)) → (Int → (List (Int × Int)) → (List (Int × Int)) → Option α) → (Bool → Option α) → Option α
  | 0, _, _, _, _, _ => none
  | k + 1, i, a1, b_1, b0, r0 =>
    bif decide (i < (((List.length a1) : Nat) : Int)) then
      bif (decide (0 ≤ i) && decide (i < (((List.length a1) : Nat) : Int))) then
        (a1[i.toNat]?).bind fun e_ =>
        bif (decide (0 ≤ i) && decide (i < (((List.length b_1) : Nat) : Int))) then
          (b_1[i.toNat]?).bind fun e_1 =>
          bif (!(decide (e_.1 = e_1.1) && decide (e_.2 = e_1.2))) then
            r0 false
          else
            laws_points9_l4 k (w64 (i + 1)) a1 b_1 b0 r0
        else
          none
      else
        none
    else
      b0 i a1 b_1

/-- loop.example/g01297/laws.points9 -/
def laws_points9 {α : Type} (k : Nat) (a : List (Int × Int)) (b_ : List (Int × Int)) (r0 : Bool → Option α) : Option α :=
  bif (!decide ((((List.length a) : Nat) : Int) = (((List.length b_) : Nat) : Int))) then
    r0 false
  else
    laws_points9_l4 k 0 a b_
      (fun i1 a2 b_2 =>
        r0 true)
      r0

/-- loop.example/g01297/laws.FnPairs -/
def laws_FnPairs {α : Type} (k : Nat) (code : List Int) (r0 : Bool → Option α) : Option α :=
  laws_big k code fun v =>
  bif v then
    r0 true
  else
    spec_DrawReducePair k code fun v1 v2 v3 v4 =>
    impl_ReducePair k v1 v2 v3 v4
      (fun v5 =>
        spec_ReducePair k v1 v2 v3 v4
          (fun v6 =>
            bif (!decide (v5 = v6)) then
              r0 false
            else
              laws_points9_0N_1N k fun v7 =>
              bif (!v7) then
                r0 false
              else
                spec_DrawIsReducedPair k code fun v8 v9 v10 v11 =>
                impl_IsReducedPair k v8 v9 v10 v11 fun v12 v13 =>
                spec_IsReducedPair k v8 v9 v10 v11 fun v14 v15 =>
                bif (!decide (v13 = v15)) then
                  r0 false
                else
                bif (!(v12 == v14)) then
                  r0 false
                else
                  spec_DrawShortestNorm k code fun v16 v17 v18 v19 =>
                  impl_ShortestNorm k v16 v17 v18 v19 fun v20 v21 =>
                  spec_ShortestNorm k v16 v17 v18 v19 fun v22 v23 =>
                  bif (!decide (v21 = v23)) then
                    r0 false
                  else
                  bif (!decide (v20 = v22)) then
                    r0 false
                  else
                    spec_DrawNormOf k code fun v24 v25 =>
                    impl_NormOf k v24 v25 fun v26 v27 =>
                    spec_NormOf k v24 v25 fun v28 v29 =>
                    bif (!decide (v27 = v29)) then
                      r0 false
                    else
                    bif (!decide (v26 = v28)) then
                      r0 false
                    else
                    bif decide (v21 = 0) then
                      impl_NormOf k v16 v17 fun v30 v31 =>
                      impl_NormOf k v18 v19 fun v32 v33 =>
                      bif (!decide (v31 = 0)) then
                        r0 false
                      else
                      bif (!decide (v33 = 0)) then
                        r0 false
                      else
                      bif decide (v20 < 1) then
                        r0 false
                      else
                      bif decide (v30 < v20) then
                        r0 false
                      else
                      bif decide (v32 < v20) then
                        r0 false
                      else
                      bif (!decide (v5 = 0)) then
                        r0 true
                      else
                        impl_DeterminantOf k v1 v2 v3 v4 fun v34 v35 =>
                        none
                    else
                    bif (!decide (v5 = 0)) then
                      r0 true
                    else
                      impl_DeterminantOf k v1 v2 v3 v4 fun v36 v37 =>
                      none)
          (fun v38 v39 =>
            bif (!decide (v5 = v39)) then
              r0 false
            else
              laws_points9_0N k v38 fun v40 =>
              bif (!v40) then
                r0 false
              else
                spec_DrawIsReducedPair k code fun v41 v42 v43 v44 =>
                impl_IsReducedPair k v41 v42 v43 v44 fun v45 v46 =>
                spec_IsReducedPair k v41 v42 v43 v44 fun v47 v48 =>
                bif (!decide (v46 = v48)) then
                  r0 false
                else
                bif (!(v45 == v47)) then
                  r0 false
                else
                  spec_DrawShortestNorm k code fun v49 v50 v51 v52 =>
                  impl_ShortestNorm k v49 v50 v51 v52 fun v53 v54 =>
                  spec_ShortestNorm k v49 v50 v51 v52 fun v55 v56 =>
                  bif (!decide (v54 = v56)) then
                    r0 false
                  else
                  bif (!decide (v53 = v55)) then
                    r0 false
                  else
                    spec_DrawNormOf k code fun v57 v58 =>
                    impl_NormOf k v57 v58 fun v59 v60 =>
                    spec_NormOf k v57 v58 fun v61 v62 =>
                    bif (!decide (v60 = v62)) then
                      r0 false
                    else
                    bif (!decide (v59 = v61)) then
                      r0 false
                    else
                    bif decide (v54 = 0) then
                      impl_NormOf k v49 v50 fun v63 v64 =>
                      impl_NormOf k v51 v52 fun v65 v66 =>
                      bif (!decide (v64 = 0)) then
                        r0 false
                      else
                      bif (!decide (v66 = 0)) then
                        r0 false
                      else
                      bif decide (v53 < 1) then
                        r0 false
                      else
                      bif decide (v63 < v53) then
                        r0 false
                      else
                      bif decide (v65 < v53) then
                        r0 false
                      else
                      bif (!decide (v5 = 0)) then
                        r0 true
                      else
                        impl_DeterminantOf k v1 v2 v3 v4 fun v67 v68 =>
                        none
                    else
                    bif (!decide (v5 = 0)) then
                      r0 true
                    else
                      impl_DeterminantOf k v1 v2 v3 v4 fun v69 v70 =>
                      none))
      (fun v71 v72 =>
        spec_ReducePair k v1 v2 v3 v4
          (fun v73 =>
            bif (!decide (v72 = v73)) then
              r0 false
            else
              laws_points9_1N k v71 fun v74 =>
              bif (!v74) then
                r0 false
              else
                spec_DrawIsReducedPair k code fun v75 v76 v77 v78 =>
                impl_IsReducedPair k v75 v76 v77 v78 fun v79 v80 =>
                spec_IsReducedPair k v75 v76 v77 v78 fun v81 v82 =>
                bif (!decide (v80 = v82)) then
                  r0 false
                else
                bif (!(v79 == v81)) then
                  r0 false
                else
                  spec_DrawShortestNorm k code fun v83 v84 v85 v86 =>
                  impl_ShortestNorm k v83 v84 v85 v86 fun v87 v88 =>
                  spec_ShortestNorm k v83 v84 v85 v86 fun v89 v90 =>
                  bif (!decide (v88 = v90)) then
                    r0 false
                  else
                  bif (!decide (v87 = v89)) then
                    r0 false
                  else
                    spec_DrawNormOf k code fun v91 v92 =>
                    impl_NormOf k v91 v92 fun v93 v94 =>
                    spec_NormOf k v91 v92 fun v95 v96 =>
                    bif (!decide (v94 = v96)) then
                      r0 false
                    else
                    bif (!decide (v93 = v95)) then
                      r0 false
                    else
                    bif decide (v88 = 0) then
                      impl_NormOf k v83 v84 fun v97 v98 =>
                      impl_NormOf k v85 v86 fun v99 v100 =>
                      bif (!decide (v98 = 0)) then
                        r0 false
                      else
                      bif (!decide (v100 = 0)) then
                        r0 false
                      else
                      bif decide (v87 < 1) then
                        r0 false
                      else
                      bif decide (v97 < v87) then
                        r0 false
                      else
                      bif decide (v99 < v87) then
                        r0 false
                      else
                      bif (!decide (v72 = 0)) then
                        r0 (decide ((((List.length v71) : Nat) : Int) = 0))
                      else
                        impl_DeterminantOf k v1 v2 v3 v4 fun v101 v102 =>
                        bif (true && decide (0 < (((List.length v71) : Nat) : Int))) then
                          (v71[0]?).bind fun e_ =>
                          bif (true && decide (1 < (((List.length v71) : Nat) : Int))) then
                            (v71[1]?).bind fun e_1 =>
                            impl_DeterminantOf k e_.1 e_.2 e_1.1 e_1.2 fun v103 v104 =>
                            bif (true && decide (0 < (((List.length v71) : Nat) : Int))) then
                              (v71[0]?).bind fun e_2 =>
                              bif (true && decide (1 < (((List.length v71) : Nat) : Int))) then
                                (v71[1]?).bind fun e_3 =>
                                impl_IsReducedPair k e_2.1 e_2.2 e_3.1 e_3.2 fun v105 v106 =>
                                bif (true && decide (0 < (((List.length v71) : Nat) : Int))) then
                                  (v71[0]?).bind fun e_4 =>
                                  impl_IsPoint k e_4.1 e_4.2 fun v107 =>
                                  bif (!v107) then
                                    bif decide (v102 = 0) then
                                      bif decide (v104 = 1) then
                                        r0 (decide (v106 = 1))
                                      else
                                        r0 false
                                    else
                                      r0 false
                                  else
                                  bif (true && decide (1 < (((List.length v71) : Nat) : Int))) then
                                    (v71[1]?).bind fun e_5 =>
                                    impl_IsPoint k e_5.1 e_5.2 fun v108 =>
                                    bif (!v108) then
                                      bif decide (v102 = 0) then
                                        bif decide (v104 = 1) then
                                          r0 (decide (v106 = 1))
                                        else
                                          r0 false
                                      else
                                        r0 false
                                    else
                                    bif decide (v102 = 0) then
                                      bif decide (v104 = 0) then
                                        bif decide ((max v101 (w64 (0 - v101))) = (max v103 (w64 (0 - v103)))) then
                                          bif decide (v106 = 0) then
                                            r0 v105
                                          else
                                            r0 false
                                        else
                                          r0 false
                                      else
                                        r0 false
                                    else
                                      r0 false
                                  else
                                    none
                                else
                                  none
                              else
                                none
                            else
                              none
                          else
                            none
                        else
                          none
                    else
                    bif (!decide (v72 = 0)) then
                      r0 (decide ((((List.length v71) : Nat) : Int) = 0))
                    else
                      impl_DeterminantOf k v1 v2 v3 v4 fun v109 v110 =>
                      bif (true && decide (0 < (((List.length v71) : Nat) : Int))) then
                        (v71[0]?).bind fun e_6 =>
                        bif (true && decide (1 < (((List.length v71) : Nat) : Int))) then
                          (v71[1]?).bind fun e_7 =>
                          impl_DeterminantOf k e_6.1 e_6.2 e_7.1 e_7.2 fun v111 v112 =>
                          bif (true && decide (0 < (((List.length v71) : Nat) : Int))) then
                            (v71[0]?).bind fun e_8 =>
                            bif (true && decide (1 < (((List.length v71) : Nat) : Int))) then
                              (v71[1]?).bind fun e_9 =>
                              impl_IsReducedPair k e_8.1 e_8.2 e_9.1 e_9.2 fun v113 v114 =>
                              bif (true && decide (0 < (((List.length v71) : Nat) : Int))) then
                                (v71[0]?).bind fun e_10 =>
                                impl_IsPoint k e_10.1 e_10.2 fun v115 =>
                                bif (!v115) then
                                  bif decide (v110 = 0) then
                                    bif decide (v112 = 1) then
                                      r0 (decide (v114 = 1))
                                    else
                                      r0 false
                                  else
                                    r0 false
                                else
                                bif (true && decide (1 < (((List.length v71) : Nat) : Int))) then
                                  (v71[1]?).bind fun e_11 =>
                                  impl_IsPoint k e_11.1 e_11.2 fun v116 =>
                                  bif (!v116) then
                                    bif decide (v110 = 0) then
                                      bif decide (v112 = 1) then
                                        r0 (decide (v114 = 1))
                                      else
                                        r0 false
                                    else
                                      r0 false
                                  else
                                  bif decide (v110 = 0) then
                                    bif decide (v112 = 0) then
                                      bif decide ((max v109 (w64 (0 - v109))) = (max v111 (w64 (0 - v111)))) then
                                        bif decide (v114 = 0) then
                                          r0 v113
                                        else
                                          r0 false
                                      else
                                        r0 false
                                    else
                                      r0 false
                                  else
                                    r0 false
                                else
                                  none
                              else
                                none
                            else
                              none
                          else
                            none
                        else
                          none
                      else
                        none)
          (fun v117 v118 =>
            bif (!decide (v72 = v118)) then
              r0 false
            else
              laws_points9 k v71 v117 fun v119 =>
              bif (!v119) then
                r0 false
              else
                spec_DrawIsReducedPair k code fun v120 v121 v122 v123 =>
                impl_IsReducedPair k v120 v121 v122 v123 fun v124 v125 =>
                spec_IsReducedPair k v120 v121 v122 v123 fun v126 v127 =>
                bif (!decide (v125 = v127)) then
                  r0 false
                else
                bif (!(v124 == v126)) then
                  r0 false
                else
                  spec_DrawShortestNorm k code fun v128 v129 v130 v131 =>
                  impl_ShortestNorm k v128 v129 v130 v131 fun v132 v133 =>
                  spec_ShortestNorm k v128 v129 v130 v131 fun v134 v135 =>
                  bif (!decide (v133 = v135)) then
                    r0 false
                  else
                  bif (!decide (v132 = v134)) then
                    r0 false
                  else
                    spec_DrawNormOf k code fun v136 v137 =>
                    impl_NormOf k v136 v137 fun v138 v139 =>
                    spec_NormOf k v136 v137 fun v140 v141 =>
                    bif (!decide (v139 = v141)) then
                      r0 false
                    else
                    bif (!decide (v138 = v140)) then
                      r0 false
                    else
                    bif decide (v133 = 0) then
                      impl_NormOf k v128 v129 fun v142 v143 =>
                      impl_NormOf k v130 v131 fun v144 v145 =>
                      bif (!decide (v143 = 0)) then
                        r0 false
                      else
                      bif (!decide (v145 = 0)) then
                        r0 false
                      else
                      bif decide (v132 < 1) then
                        r0 false
                      else
                      bif decide (v142 < v132) then
                        r0 false
                      else
                      bif decide (v144 < v132) then
                        r0 false
                      else
                      bif (!decide (v72 = 0)) then
                        r0 (decide ((((List.length v71) : Nat) : Int) = 0))
                      else
                        impl_DeterminantOf k v1 v2 v3 v4 fun v146 v147 =>
                        bif (true && decide (0 < (((List.length v71) : Nat) : Int))) then
                          (v71[0]?).bind fun e_12 =>
                          bif (true && decide (1 < (((List.length v71) : Nat) : Int))) then
                            (v71[1]?).bind fun e_13 =>
                            impl_DeterminantOf k e_12.1 e_12.2 e_13.1 e_13.2 fun v148 v149 =>
                            bif (true && decide (0 < (((List.length v71) : Nat) : Int))) then
                              (v71[0]?).bind fun e_14 =>
                              bif (true && decide (1 < (((List.length v71) : Nat) : Int))) then
                                (v71[1]?).bind fun e_15 =>
                                impl_IsReducedPair k e_14.1 e_14.2 e_15.1 e_15.2 fun v150 v151 =>
                                bif (true && decide (0 < (((List.length v71) : Nat) : Int))) then
                                  (v71[0]?).bind fun e_16 =>
                                  impl_IsPoint k e_16.1 e_16.2 fun v152 =>
                                  bif (!v152) then
                                    bif decide (v147 = 0) then
                                      bif decide (v149 = 1) then
                                        r0 (decide (v151 = 1))
                                      else
                                        r0 false
                                    else
                                      r0 false
                                  else
                                  bif (true && decide (1 < (((List.length v71) : Nat) : Int))) then
                                    (v71[1]?).bind fun e_17 =>
                                    impl_IsPoint k e_17.1 e_17.2 fun v153 =>
                                    bif (!v153) then
                                      bif decide (v147 = 0) then
                                        bif decide (v149 = 1) then
                                          r0 (decide (v151 = 1))
                                        else
                                          r0 false
                                      else
                                        r0 false
                                    else
                                    bif decide (v147 = 0) then
                                      bif decide (v149 = 0) then
                                        bif decide ((max v146 (w64 (0 - v146))) = (max v148 (w64 (0 - v148)))) then
                                          bif decide (v151 = 0) then
                                            r0 v150
                                          else
                                            r0 false
                                        else
                                          r0 false
                                      else
                                        r0 false
                                    else
                                      r0 false
                                  else
                                    none
                                else
                                  none
                              else
                                none
                            else
                              none
                          else
                            none
                        else
                          none
                    else
                    bif (!decide (v72 = 0)) then
                      r0 (decide ((((List.length v71) : Nat) : Int) = 0))
                    else
                      impl_DeterminantOf k v1 v2 v3 v4 fun v154 v155 =>
                      bif (true && decide (0 < (((List.length v71) : Nat) : Int))) then
                        (v71[0]?).bind fun e_18 =>
                        bif (true && decide (1 < (((List.length v71) : Nat) : Int))) then
                          (v71[1]?).bind fun e_19 =>
                          impl_DeterminantOf k e_18.1 e_18.2 e_19.1 e_19.2 fun v156 v157 =>
                          bif (true && decide (0 < (((List.length v71) : Nat) : Int))) then
                            (v71[0]?).bind fun e_20 =>
                            bif (true && decide (1 < (((List.length v71) : Nat) : Int))) then
                              (v71[1]?).bind fun e_21 =>
                              impl_IsReducedPair k e_20.1 e_20.2 e_21.1 e_21.2 fun v158 v159 =>
                              bif (true && decide (0 < (((List.length v71) : Nat) : Int))) then
                                (v71[0]?).bind fun e_22 =>
                                impl_IsPoint k e_22.1 e_22.2 fun v160 =>
                                bif (!v160) then
                                  bif decide (v155 = 0) then
                                    bif decide (v157 = 1) then
                                      r0 (decide (v159 = 1))
                                    else
                                      r0 false
                                  else
                                    r0 false
                                else
                                bif (true && decide (1 < (((List.length v71) : Nat) : Int))) then
                                  (v71[1]?).bind fun e_23 =>
                                  impl_IsPoint k e_23.1 e_23.2 fun v161 =>
                                  bif (!v161) then
                                    bif decide (v155 = 0) then
                                      bif decide (v157 = 1) then
                                        r0 (decide (v159 = 1))
                                      else
                                        r0 false
                                    else
                                      r0 false
                                  else
                                  bif decide (v155 = 0) then
                                    bif decide (v157 = 0) then
                                      bif decide ((max v154 (w64 (0 - v154))) = (max v156 (w64 (0 - v156)))) then
                                        bif decide (v159 = 0) then
                                          r0 v158
                                        else
                                          r0 false
                                      else
                                        r0 false
                                    else
                                      r0 false
                                  else
                                    r0 false
                                else
                                  none
                              else
                                none
                            else
                              none
                          else
                            none
                        else
                          none
                      else
                        none))

end Go.Sh
