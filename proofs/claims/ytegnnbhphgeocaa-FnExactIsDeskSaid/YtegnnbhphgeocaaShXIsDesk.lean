/- The program's functions, read without memory: printed by a program of ours. -/
import Derived.Test.YtegnnbhphgeocaaMaB
namespace Go.Sh
open Go Go.Ev

/-- loop.example/g01297/laws.toPoint -/
def laws_toPoint {α : Type} (k : Nat) (a : Int) (a1 : Int) (r0 : Int → Int → Option α) : Option α :=
  r0 a a1

/-- loop.example/g01297/laws.toInt64A2 -/
def laws_toInt64A2 {α : Type} (k : Nat) (a : Int) (a1 : Int) (r0 : Int → Int → Option α) : Option α :=
  r0 a a1

/-- loop.example/g01297/laws.toMatrix -/
def laws_toMatrix {α : Type} (k : Nat) (a : Int) (a1 : Int) (a2 : Int) (a3 : Int) (r0 : Int → Int → Int → Int → Option α) : Option α :=
  laws_toInt64A2 k a a1 fun v v1 =>
  laws_toInt64A2 k a2 a3 fun v2 v3 =>
  r0 v v1 v2 v3

/-- loop.example/g01297/laws.toForm -/
def laws_toForm {α : Type} (k : Nat) (a : Int) (a1 : Int) (a2 : Int) (r0 : Int → Int → Int → Option α) : Option α :=
  r0 a a1 a2

/-- loop.example/g01297/laws.toDesk -/
def laws_toDesk {α : Type} (k : Nat) (a : Int) (a1 : Int) (a2 : Int) (a3 : Int) (a4 : Int) (a5 : Int) (a6 : Int) (a7 : Int) (a8 : Int) (a9 : Int) (a10 : Int) (r0 : Int → Int → Int → Int → Int → Int → Int → Int → Int → Int → Int → Option α) : Option α :=
  laws_toPoint k a a1 fun v v1 =>
  laws_toPoint k a2 a3 fun v2 v3 =>
  laws_toMatrix k a4 a5 a6 a7 fun v4 v5 v6 v7 =>
  laws_toForm k a8 a9 a10 fun v8 v9 v10 =>
  r0 v v1 v2 v3 v4 v5 v6 v7 v8 v9 v10

/-- loop.example/g01297/spec.l01In -/
def spec_l01In {α : Type} (k : Nat) (n_ : Int) (low : Int) (high : Int) (r0 : Bool → Option α) : Option α :=
  bif decide (low ≤ n_) then
    r0 (decide (n_ ≤ high))
  else
    r0 false

/-- loop.example/g01297/spec.l01Fits -/
def spec_l01Fits {α : Type} (k : Nat) (x : Int) (r0 : Bool → Option α) : Option α :=
  spec_l01In k x (-1000000) 1000000 fun v =>
  r0 v

/-- loop.example/g01297/spec.l01Is -/
def spec_l01Is {α : Type} (k : Nat) (a : Int) (a1 : Int) (r0 : Bool → Option α) : Option α :=
  spec_l01Fits k a fun v =>
  bif v then
    spec_l01Fits k a1 fun v1 =>
    r0 v1
  else
    r0 false

/-- loop.example/g01297/spec.l01Matrix -/
def spec_l01Matrix {α : Type} (k : Nat) (m : Int) (m1 : Int) (m2 : Int) (m3 : Int) (r0 : Bool → Option α) : Option α :=
  spec_l01Fits k m fun v =>
  bif v then
    spec_l01Fits k m1 fun v1 =>
    bif v1 then
      spec_l01Fits k m2 fun v2 =>
      bif v2 then
        spec_l01Fits k m3 fun v3 =>
        r0 v3
      else
        r0 false
    else
      r0 false
  else
    r0 false

/-- loop.example/g01297/spec.l06Disc -/
def spec_l06Disc {α : Type} (k : Nat) (x : Int) (x1 : Int) (x2 : Int) (r0 : Int → Option α) : Option α :=
  r0 (w64 ((w64 (x1 * x1)) - (w64 ((w64 (4 * x)) * x2))))

def spec_l06Root_l2 {α : Type} : Nat → Int → Int → (Int → Int → Option α) → (Int → Option α) → Option α
  | 0, _, _, _, _ => none
  | k + 1, d1, w, b0, r0 =>
    bif decide ((w64 ((w64 (w + 1)) * (w64 (w + 1)))) ≤ d1) then
      spec_l06Root_l2 k d1 (w64 (w + 1)) b0 r0
    else
      b0 d1 w

/-- loop.example/g01297/spec.l06Root -/
def spec_l06Root {α : Type} (k : Nat) (d : Int) (r0 : Int → Option α) : Option α :=
  spec_l06Root_l2 k d 0
    (fun d2 w1 =>
      r0 w1)
    r0

/-- loop.example/g01297/spec.l06Is -/
def spec_l06Is {α : Type} (k : Nat) (x : Int) (x1 : Int) (x2 : Int) (r0 : Bool → Option α) : Option α :=
  spec_l01Fits k x fun v =>
  bif (!v) then
    r0 false
  else
    spec_l01Fits k x1 fun v1 =>
    bif (!v1) then
      r0 false
    else
      spec_l01Fits k x2 fun v2 =>
      bif (!v2) then
        r0 false
      else
        spec_l06Disc k x x1 x2 fun v3 =>
        spec_l01In k v3 1 4000 fun v4 =>
        bif (!v4) then
          r0 false
        else
          spec_l06Root k v3 fun v5 =>
          r0 (!decide ((w64 (v5 * v5)) = v3))

/-- loop.example/g01297/spec.l11Is -/
def spec_l11Is {α : Type} (k : Nat) (d : Int) (d1 : Int) (d2 : Int) (d3 : Int) (d4 : Int) (d5 : Int) (d6 : Int) (d7 : Int) (d8 : Int) (d9 : Int) (d10 : Int) (r0 : Bool → Option α) : Option α :=
  spec_l01Is k d d1 fun v =>
  bif v then
    spec_l01Is k d2 d3 fun v1 =>
    bif v1 then
      spec_l01Matrix k d4 d5 d6 d7 fun v2 =>
      bif v2 then
        spec_l06Is k d8 d9 d10 fun v3 =>
        r0 v3
      else
        r0 false
    else
      r0 false
  else
    r0 false

/-- loop.example/g01297/spec.IsDesk -/
def spec_IsDesk {α : Type} (k : Nat) (d : Int) (d1 : Int) (d2 : Int) (d3 : Int) (d4 : Int) (d5 : Int) (d6 : Int) (d7 : Int) (d8 : Int) (d9 : Int) (d10 : Int) (r0 : Bool → Option α) : Option α :=
  spec_l11Is k d d1 d2 d3 d4 d5 d6 d7 d8 d9 d10 fun v =>
  r0 v

/-- loop.example/g01297/impl.in -/
def impl_in {α : Type} (k : Nat) (n_ : Int) (low : Int) (high : Int) (r0 : Bool → Option α) : Option α :=
  bif decide (low ≤ n_) then
    r0 (decide (n_ ≤ high))
  else
    r0 false

/-- loop.example/g01297/impl.isCoord -/
def impl_isCoord {α : Type} (k : Nat) (n_ : Int) (r0 : Bool → Option α) : Option α :=
  impl_in k n_ (-1000000) 1000000 fun v =>
  r0 v

/-- loop.example/g01297/impl.IsPoint -/
def impl_IsPoint {α : Type} (k : Nat) (a : Int) (a1 : Int) (r0 : Bool → Option α) : Option α :=
  impl_isCoord k a fun v =>
  bif v then
    impl_isCoord k a1 fun v1 =>
    r0 v1
  else
    r0 false

/-- loop.example/g01297/impl.points$1 -/
def impl_points_1 {α : Type} (k : Nat) (a : Int) (a1 : Int) (r0 : Bool → Option α) : Option α :=
  impl_IsPoint k a a1 fun v =>
  r0 (!v)

def slices_IndexFunc_impl_Point_impl_Point_1F_impl_points_1_l2 {α : Type} : Nat → Int → Int → (List (Int × Int)) → (Int → Int → (List (Int × Int)) → Option α) → (Int → Option α) → Option α
  | 0, _, _, _, _, _ => none
  | k + 1, x, x1, s1, b0, r0 =>
    bif decide (x1 < x) then
      bif (decide (0 ≤ x1) && decide (x1 < (((List.length s1) : Nat) : Int))) then
        (s1[x1.toNat]?).bind fun e_ =>
        impl_points_1 k e_.1 e_.2 fun v =>
        bif v then
          r0 x1
        else
          slices_IndexFunc_impl_Point_impl_Point_1F_impl_points_1_l2 k x (w64 (x1 + 1)) s1 b0 r0
      else
        none
    else
      b0 x x1 s1

/-- slices.IndexFunc[[]loop.example/g01297/impl.Point,loop.example/g01297/impl.Point] -/
def slices_IndexFunc_impl_Point_impl_Point_1F_impl_points_1 {α : Type} (k : Nat) (s : List (Int × Int)) (r0 : Int → Option α) : Option α :=
  slices_IndexFunc_impl_Point_impl_Point_1F_impl_points_1_l2 k (((List.length s) : Nat) : Int) 0 s
    (fun x2 x3 s2 =>
      r0 (-1))
    r0

/-- slices.ContainsFunc[[]loop.example/g01297/impl.Point,loop.example/g01297/impl.Point] -/
def slices_ContainsFunc_impl_Point_impl_Point_1F_impl_points_1 {α : Type} (k : Nat) (s : List (Int × Int)) (r0 : Bool → Option α) : Option α :=
  slices_IndexFunc_impl_Point_impl_Point_1F_impl_points_1 k s fun v =>
  r0 (decide (0 ≤ v))

/-- loop.example/g01297/impl.points -/
def impl_points {α : Type} (k : Nat) (list : List (Int × Int)) (r0 : Bool → Option α) : Option α :=
  slices_ContainsFunc_impl_Point_impl_Point_1F_impl_points_1 k list fun v =>
  r0 (!v)

/-- loop.example/g01297/impl.IsMatrix -/
def impl_IsMatrix {α : Type} (k : Nat) (m : Int) (m1 : Int) (m2 : Int) (m3 : Int) (r0 : Bool → Option α) : Option α :=
  impl_points k [(m, m1), (m2, m3)] fun v =>
  r0 v

/-- (loop.example/g01297/impl.Form).disc -/
def impl_Form_disc {α : Type} (k : Nat) (x : Int) (x1 : Int) (x2 : Int) (r0 : Int → Option α) : Option α :=
  r0 (w64 ((w64 (x1 * x1)) - (w64 ((w64 (4 * x)) * x2))))

def impl_root_l2 {α : Type} : Nat → Int → Int → (Int → Int → Option α) → (Int → Option α) → Option α
  | 0, _, _, _, _ => none
  | k + 1, d1, w, b0, r0 =>
    bif decide ((w64 ((w64 (w + 1)) * (w64 (w + 1)))) ≤ d1) then
      impl_root_l2 k d1 (w64 (w + 1)) b0 r0
    else
      b0 d1 w

/-- loop.example/g01297/impl.root -/
def impl_root {α : Type} (k : Nat) (d : Int) (r0 : Int → Option α) : Option α :=
  impl_root_l2 k d 0
    (fun d2 w1 =>
      r0 w1)
    r0

/-- loop.example/g01297/impl.discOk -/
def impl_discOk {α : Type} (k : Nat) (d : Int) (r0 : Bool → Option α) : Option α :=
  impl_in k d 1 4000 fun v =>
  bif v then
    impl_root k d fun v1 =>
    impl_root k d fun v2 =>
    r0 (!decide ((w64 (v1 * v2)) = d))
  else
    r0 false

/-- loop.example/g01297/impl.IsForm -/
def impl_IsForm {α : Type} (k : Nat) (x : Int) (x1 : Int) (x2 : Int) (r0 : Bool → Option α) : Option α :=
  impl_isCoord k x fun v =>
  bif v then
    impl_isCoord k x1 fun v1 =>
    bif v1 then
      impl_isCoord k x2 fun v2 =>
      bif v2 then
        impl_Form_disc k x x1 x2 fun v3 =>
        impl_discOk k v3 fun v4 =>
        r0 v4
      else
        r0 false
    else
      r0 false
  else
    r0 false

/-- loop.example/g01297/impl.IsDesk -/
def impl_IsDesk {α : Type} (k : Nat) (d : Int) (d1 : Int) (d2 : Int) (d3 : Int) (d4 : Int) (d5 : Int) (d6 : Int) (d7 : Int) (d8 : Int) (d9 : Int) (d10 : Int) (r0 : Bool → Option α) : Option α :=
  impl_points k [(d, d1), (d2, d3)] fun v =>
  bif v then
    impl_IsMatrix k d4 d5 d6 d7 fun v1 =>
    bif v1 then
      impl_IsForm k d8 d9 d10 fun v2 =>
      r0 v2
    else
      r0 false
  else
    r0 false

/-- loop.example/g01297/laws.FnExactIsDesk -/
def laws_FnExactIsDesk {α : Type} (k : Nat) (aD : Int) (aD1 : Int) (aD2 : Int) (aD3 : Int) (aD4 : Int) (aD5 : Int) (aD6 : Int) (aD7 : Int) (aD8 : Int) (aD9 : Int) (aD10 : Int) (r0 : Bool → Option α) : Option α :=
  laws_toDesk k aD aD1 aD2 aD3 aD4 aD5 aD6 aD7 aD8 aD9 aD10 fun v v1 v2 v3 v4 v5 v6 v7 v8 v9 v10 =>
  spec_IsDesk k v v1 v2 v3 v4 v5 v6 v7 v8 v9 v10 fun v11 =>
  laws_toDesk k aD aD1 aD2 aD3 aD4 aD5 aD6 aD7 aD8 aD9 aD10 fun v12 v13 v14 v15 v16 v17 v18 v19 v20 v21 v22 =>
  impl_IsDesk k v12 v13 v14 v15 v16 v17 v18 v19 v20 v21 v22 fun v23 =>
  bif (!(v23 == v11)) then
    r0 false
  else
    r0 true

end Go.Sh
