/- The program's functions, read without memory: printed by a program of ours. -/
import Derived.Test.YtjekmhinmcniaaaMaB
namespace Go.Sh
open Go Go.Ev

/-- loop.example/g01297/laws.szPointS -/
def laws_szPointS {α : Type} (k : Nat) (a : List (Int × Int)) (left : Int) (r0 : Int → Option α) : Option α :=
  bif decide ((w64 (left - (((List.length a) : Nat) : Int))) < 0) then
    r0 (-1)
  else
    r0 (w64 (left - (((List.length a) : Nat) : Int)))

/-- loop.example/g01297/laws.toPoint -/
def laws_toPoint {α : Type} (k : Nat) (a : Int) (a1 : Int) (r0 : Int → Int → Option α) : Option α :=
  r0 a a1

def laws_toPointS_l3 {α : Type} : Nat → Int → (List (Int × Int)) → (List (Int × Int)) → (Int → (List (Int × Int)) → (List (Int × Int)) → Option α) → ((List (Int × Int)) → Option α) → Option α
  | 0, _, _, _, _, _ => none
  | k + 1, i, a1, out, b0, r0 =>
    bif decide (i < (((List.length a1) : Nat) : Int)) then
      bif (decide (0 ≤ i) && decide (i < (((List.length a1) : Nat) : Int))) then
        (a1[i.toNat]?).bind fun e_ =>
        laws_toPoint k e_.1 e_.2 fun v v1 =>
        bif (decide (0 ≤ i) && decide (i < (((List.length out) : Nat) : Int))) then
          (out[i.toNat]?).bind fun e_1 =>
          laws_toPointS_l3 k (w64 (i + 1)) a1 (List.set out i.toNat (v, v1)) b0 r0
        else
          none
      else
        none
    else
      b0 i a1 out

/-- loop.example/g01297/laws.toPointS -/
def laws_toPointS {α : Type} (k : Nat) (a : List (Int × Int)) (r0 : (List (Int × Int)) → Option α) : Option α :=
  bif (decide (0 ≤ (((List.length a) : Nat) : Int)) && decide ((((List.length a) : Nat) : Int) ≤ (big : Int))) then
    laws_toPointS_l3 k 0 a (List.replicate (((List.length a) : Nat) : Int).toNat (0, 0))
      (fun i1 a2 out1 =>
        r0 out1)
      r0
  else
    none

/-- loop.example/g01297/spec.l01In -/
def spec_l01In {α : Type} (k : Nat) (n_ : Int) (low : Int) (high : Int) (r0 : Bool → Option α) : Option α :=
  bif decide (low ≤ n_) then
    r0 (decide (n_ ≤ high))
  else
    r0 false

/-- loop.example/g01297/spec.l01Fits -/
def spec_l01Fits {α : Type} (k : Nat) (x : Int) (r0 : Bool → Option α) : Option α :=
  spec_l01In k x (-1000000) 1000000 fun v =>
  r0 v

/-- loop.example/g01297/spec.l01Is -/
def spec_l01Is {α : Type} (k : Nat) (a : Int) (a1 : Int) (r0 : Bool → Option α) : Option α :=
  spec_l01Fits k a fun v =>
  bif v then
    spec_l01Fits k a1 fun v1 =>
    r0 v1
  else
    r0 false

/-- loop.example/g01297/spec.l01Plus -/
def spec_l01Plus {α : Type} (k : Nat) (a : Int) (a1 : Int) (b_ : Int) (b_1 : Int) (k_ : Int) (r0 : Int → Int → Option α) : Option α :=
  r0 (w64 (a + (w64 (k_ * b_)))) (w64 (a1 + (w64 (k_ * b_1))))

/-- loop.example/g01297/spec.l01Det -/
def spec_l01Det {α : Type} (k : Nat) (a : Int) (a1 : Int) (b_ : Int) (b_1 : Int) (r0 : Int → Option α) : Option α :=
  r0 (w64 ((w64 (a * b_1)) - (w64 (a1 * b_))))

/-- loop.example/g01297/spec.l09Side -/
def spec_l09Side {α : Type} (k : Nat) (a : Int) (a1 : Int) (b_ : Int) (b_1 : Int) (c : Int) (c1 : Int) (r0 : Int → Option α) : Option α :=
  spec_l01Plus k b_ b_1 a a1 (-1) fun v v1 =>
  spec_l01Plus k c c1 b_ b_1 (-1) fun v2 v3 =>
  spec_l01Det k v v1 v2 v3 fun v4 =>
  r0 v4

/-- loop.example/g01297/spec.l09Half -/
def spec_l09Half {α : Type} (k : Nat) (a : Int) (a1 : Int) (r0 : Int → Option α) : Option α :=
  bif decide (0 < a1) then
    r0 0
  else
  bif decide (a1 = 0) then
    bif decide (0 < a) then
      r0 0
    else
      r0 1
  else
    r0 1

def spec_l09Is_l6 {α : Type} : Nat → Int → Int → Int → (List (Int × Int)) → (Int → Int → Int → (List (Int × Int)) → Option α) → (Bool → Option α) → Option α
  | 0, _, _, _, _, _, _ => none
  | k + 1, n_, turns, i, list1, b0, r0 =>
    bif decide (i < n_) then
      bif (decide (0 ≤ i) && decide (i < (((List.length list1) : Nat) : Int))) then
        (list1[i.toNat]?).bind fun e_ =>
        bif decide (n_ = 0) then
          none
        else
        bif (decide (0 ≤ (Int.tmod (w64 (i + 1)) n_)) && decide ((Int.tmod (w64 (i + 1)) n_) < (((List.length list1) : Nat) : Int))) then
          (list1[(Int.tmod (w64 (i + 1)) n_).toNat]?).bind fun e_1 =>
          bif decide (n_ = 0) then
            none
          else
          bif (decide (0 ≤ (Int.tmod (w64 (i + 2)) n_)) && decide ((Int.tmod (w64 (i + 2)) n_) < (((List.length list1) : Nat) : Int))) then
            (list1[(Int.tmod (w64 (i + 2)) n_).toNat]?).bind fun e_2 =>
            spec_l01In k e_.1 (-1000) 1000 fun v =>
            bif (!v) then
              r0 false
            else
              spec_l01In k e_.2 (-1000) 1000 fun v1 =>
              bif (!v1) then
                r0 false
              else
                spec_l01Is k e_1.1 e_1.2 fun v2 =>
                bif (!v2) then
                  r0 false
                else
                  spec_l01Is k e_2.1 e_2.2 fun v3 =>
                  bif (!v3) then
                    r0 false
                  else
                    spec_l09Side k e_.1 e_.2 e_1.1 e_1.2 e_2.1 e_2.2 fun v4 =>
                    bif decide (v4 ≤ 0) then
                      r0 false
                    else
                      spec_l01Plus k e_1.1 e_1.2 e_.1 e_.2 (-1) fun v5 v6 =>
                      spec_l09Half k v5 v6 fun v7 =>
                      bif decide (v7 = 1) then
                        spec_l01Plus k e_2.1 e_2.2 e_1.1 e_1.2 (-1) fun v8 v9 =>
                        spec_l09Half k v8 v9 fun v10 =>
                        bif decide (v10 = 0) then
                          spec_l09Is_l6 k n_ (w64 (turns + 1)) (w64 (i + 1)) list1 b0 r0
                        else
                          spec_l09Is_l6 k n_ turns (w64 (i + 1)) list1 b0 r0
                      else
                        spec_l09Is_l6 k n_ turns (w64 (i + 1)) list1 b0 r0
          else
            none
        else
          none
      else
        none
    else
      b0 n_ turns i list1

/-- loop.example/g01297/spec.l09Is -/
def spec_l09Is {α : Type} (k : Nat) (list : List (Int × Int)) (r0 : Bool → Option α) : Option α :=
  bif decide ((((List.length list) : Nat) : Int) < 3) then
    r0 false
  else
  bif decide (12 < (((List.length list) : Nat) : Int)) then
    r0 false
  else
    spec_l09Is_l6 k (((List.length list) : Nat) : Int) 0 0 list
      (fun n_1 turns1 i1 list2 =>
        r0 (decide (turns1 = 1)))
      r0

/-- loop.example/g01297/spec.l09Code -/
def spec_l09Code_0M1 {α : Type} (k : Nat) (lists : List (Int × Int)) (r0 : Int → Option α) : Option α :=
  spec_l09Is k lists fun v =>
  bif (!v) then
    r0 1
  else
    r0 0

def spec_l09Where_l3 {α : Type} : Nat → Int → Int → (List (Int × Int)) → Int → Int → (Int → Int → (List (Int × Int)) → Int → Int → Option α) → (Int → Option α) → Option α
  | 0, _, _, _, _, _, _, _ => none
  | k + 1, out, i, list1, a2, a3, b0, r0 =>
    bif decide (i < (((List.length list1) : Nat) : Int)) then
      bif (decide (0 ≤ i) && decide (i < (((List.length list1) : Nat) : Int))) then
        (list1[i.toNat]?).bind fun e_ =>
        bif decide ((((List.length list1) : Nat) : Int) = 0) then
          none
        else
        bif (decide (0 ≤ (Int.tmod (w64 (i + 1)) (((List.length list1) : Nat) : Int))) && decide ((Int.tmod (w64 (i + 1)) (((List.length list1) : Nat) : Int)) < (((List.length list1) : Nat) : Int))) then
          (list1[(Int.tmod (w64 (i + 1)) (((List.length list1) : Nat) : Int)).toNat]?).bind fun e_1 =>
          spec_l01Plus k e_1.1 e_1.2 e_.1 e_.2 (-1) fun v v1 =>
          spec_l01Plus k a2 a3 e_.1 e_.2 (-1) fun v2 v3 =>
          spec_l01Det k v v1 v2 v3 fun v4 =>
          bif decide (v4 < 0) then
            r0 (-1)
          else
          bif decide (v4 = 0) then
            spec_l09Where_l3 k 0 (w64 (i + 1)) list1 a2 a3 b0 r0
          else
            spec_l09Where_l3 k out (w64 (i + 1)) list1 a2 a3 b0 r0
        else
          none
      else
        none
    else
      b0 out i list1 a2 a3

/-- loop.example/g01297/spec.l09Where -/
def spec_l09Where {α : Type} (k : Nat) (list : List (Int × Int)) (a : Int) (a1 : Int) (r0 : Int → Option α) : Option α :=
  spec_l09Where_l3 k 1 0 list a a1
    (fun out1 i1 list2 a4 a5 =>
      r0 out1)
    r0

def spec_l09Area_l3 {α : Type} : Nat → Int → Int → (List (Int × Int)) → (Int → Int → (List (Int × Int)) → Option α) → (Int → Option α) → Option α
  | 0, _, _, _, _, _ => none
  | k + 1, sum, i, list1, b0, r0 =>
    bif decide (i < (((List.length list1) : Nat) : Int)) then
      bif (decide (0 ≤ i) && decide (i < (((List.length list1) : Nat) : Int))) then
        (list1[i.toNat]?).bind fun e_ =>
        bif decide ((((List.length list1) : Nat) : Int) = 0) then
          none
        else
        bif (decide (0 ≤ (Int.tmod (w64 (i + 1)) (((List.length list1) : Nat) : Int))) && decide ((Int.tmod (w64 (i + 1)) (((List.length list1) : Nat) : Int)) < (((List.length list1) : Nat) : Int))) then
          (list1[(Int.tmod (w64 (i + 1)) (((List.length list1) : Nat) : Int)).toNat]?).bind fun e_1 =>
          spec_l01Det k e_.1 e_.2 e_1.1 e_1.2 fun v =>
          spec_l09Area_l3 k (w64 (sum + v)) (w64 (i + 1)) list1 b0 r0
        else
          none
      else
        none
    else
      b0 sum i list1

/-- loop.example/g01297/spec.l09Area -/
def spec_l09Area {α : Type} (k : Nat) (list : List (Int × Int)) (r0 : Int → Option α) : Option α :=
  spec_l09Area_l3 k 0 0 list
    (fun sum1 i1 list2 =>
      r0 sum1)
    r0

def spec_l01Gcd_l1 {α : Type} : Nat → Int → Int → (Int → Int → Option α) → (Int → Option α) → Option α
  | 0, _, _, _, _ => none
  | k + 1, a1, b_1, b0, r0 =>
    bif (!decide (b_1 = 0)) then
      bif decide (b_1 = 0) then
        none
      else
        spec_l01Gcd_l1 k b_1 (Int.tmod a1 b_1) b0 r0
    else
      b0 a1 b_1

/-- loop.example/g01297/spec.l01Gcd -/
def spec_l01Gcd {α : Type} (k : Nat) (a : Int) (b_ : Int) (r0 : Int → Option α) : Option α :=
  spec_l01Gcd_l1 k a b_
    (fun a2 b_2 =>
      r0 (max a2 (w64 (0 - a2))))
    r0

/-- loop.example/g01297/spec.l01Length -/
def spec_l01Length {α : Type} (k : Nat) (a : Int) (a1 : Int) (b_ : Int) (b_1 : Int) (r0 : Int → Option α) : Option α :=
  spec_l01Gcd k (w64 (b_ - a)) (w64 (b_1 - a1)) fun v =>
  r0 v

def spec_l09Border_l3 {α : Type} : Nat → Int → Int → (List (Int × Int)) → (Int → Int → (List (Int × Int)) → Option α) → (Int → Option α) → Option α
  | 0, _, _, _, _, _ => none
  | k + 1, sum, i, list1, b0, r0 =>
    bif decide (i < (((List.length list1) : Nat) : Int)) then
      bif (decide (0 ≤ i) && decide (i < (((List.length list1) : Nat) : Int))) then
        (list1[i.toNat]?).bind fun e_ =>
        bif decide ((((List.length list1) : Nat) : Int) = 0) then
          none
        else
        bif (decide (0 ≤ (Int.tmod (w64 (i + 1)) (((List.length list1) : Nat) : Int))) && decide ((Int.tmod (w64 (i + 1)) (((List.length list1) : Nat) : Int)) < (((List.length list1) : Nat) : Int))) then
          (list1[(Int.tmod (w64 (i + 1)) (((List.length list1) : Nat) : Int)).toNat]?).bind fun e_1 =>
          spec_l01Length k e_.1 e_.2 e_1.1 e_1.2 fun v =>
          spec_l09Border_l3 k (w64 (sum + v)) (w64 (i + 1)) list1 b0 r0
        else
          none
      else
        none
    else
      b0 sum i list1

/-- loop.example/g01297/spec.l09Border -/
def spec_l09Border {α : Type} (k : Nat) (list : List (Int × Int)) (r0 : Int → Option α) : Option α :=
  spec_l09Border_l3 k 0 0 list
    (fun sum1 i1 list2 =>
      r0 sum1)
    r0

/-- loop.example/g01297/spec.l09Inner -/
def spec_l09Inner {α : Type} (k : Nat) (list : List (Int × Int)) (r0 : Int → Option α) : Option α :=
  spec_l09Area k list fun v =>
  spec_l09Border k list fun v1 =>
  r0 (w64 (Int.tdiv (w64 ((w64 (v - v1)) + 2)) 2))

/-- loop.example/g01297/spec.l01Part -/
def spec_l01Part {α : Type} (k : Nat) (a : Int) (a1 : Int) (r0 : Int → Int → Option α) : Option α :=
  spec_l01Gcd k a a1 fun v =>
  bif decide (v = 0) then
    none
  else
  bif decide (v = 0) then
    none
  else
    r0 (w64 (Int.tdiv a v)) (w64 (Int.tdiv a1 v))

def spec_DualPolygon_l8 {α : Type} : Nat → Int → (List (Int × Int)) → (List (Int × Int)) → (Int → (List (Int × Int)) → (List (Int × Int)) → Option α) → (Int → Option α) → ((List (Int × Int)) → Int → Option α) → Option α
  | 0, _, _, _, _, _, _ => none
  | k + 1, i, list1, out, b0, r0, r1 =>
    bif decide (i < (((List.length list1) : Nat) : Int)) then
      bif (decide (0 ≤ i) && decide (i < (((List.length list1) : Nat) : Int))) then
        (list1[i.toNat]?).bind fun e_ =>
        bif decide ((((List.length list1) : Nat) : Int) = 0) then
          none
        else
        bif (decide (0 ≤ (Int.tmod (w64 (i + 1)) (((List.length list1) : Nat) : Int))) && decide ((Int.tmod (w64 (i + 1)) (((List.length list1) : Nat) : Int)) < (((List.length list1) : Nat) : Int))) then
          (list1[(Int.tmod (w64 (i + 1)) (((List.length list1) : Nat) : Int)).toNat]?).bind fun e_1 =>
          spec_l01Plus k e_1.1 e_1.2 e_.1 e_.2 (-1) fun v3 v4 =>
          spec_l01Part k v3 v4 fun v5 v6 =>
          bif decide (((List.length out) + 1) ≤ big) then
            spec_DualPolygon_l8 k (w64 (i + 1)) list1 (out ++ [((w64 (0 - v6)), v5)]) b0 r0 r1
          else
            none
        else
          none
      else
        none
    else
      b0 i list1 out

/-- loop.example/g01297/spec.DualPolygon -/
def spec_DualPolygon {α : Type} (k : Nat) (list : List (Int × Int)) (r0 : Int → Option α) (r1 : (List (Int × Int)) → Int → Option α) : Option α :=
  spec_l09Code_0M1 k list fun v =>
  bif (!decide (v = 0)) then
    r0 v
  else
    spec_l09Where k list 0 0 fun v1 =>
    bif (!decide (v1 = 1)) then
      r0 5
    else
      spec_l09Inner k list fun v2 =>
      bif (!decide (v2 = 1)) then
        r0 5
      else
        spec_DualPolygon_l8 k 0 list []
          (fun i1 list2 out1 =>
            r1 out1 0)
          r0 r1

/-- loop.example/g01297/impl.in -/
def impl_in {α : Type} (k : Nat) (n_ : Int) (low : Int) (high : Int) (r0 : Bool → Option α) : Option α :=
  bif decide (low ≤ n_) then
    r0 (decide (n_ ≤ high))
  else
    r0 false

/-- loop.example/g01297/impl.small -/
def impl_small {α : Type} (k : Nat) (a : Int) (a1 : Int) (r0 : Bool → Option α) : Option α :=
  impl_in k a (-1000) 1000 fun v =>
  bif v then
    impl_in k a1 (-1000) 1000 fun v1 =>
    r0 v1
  else
    r0 false

/-- loop.example/g01297/impl.IsPolygon$1 -/
def impl_IsPolygon_1 {α : Type} (k : Nat) (a : Int) (a1 : Int) (r0 : Bool → Option α) : Option α :=
  impl_small k a a1 fun v =>
  r0 (!v)

def slices_IndexFunc_impl_Point_impl_Point_1F_impl_IsPolygon_1_l2 {α : Type} : Nat → Int → Int → (List (Int × Int)) → (Int → Int → (List (Int × Int)) → Option α) → (Int → Option α) → Option α
  | 0, _, _, _, _, _ => none
  | k + 1, x, x1, s1, b0, r0 =>
    bif decide (x1 < x) then
      bif (decide (0 ≤ x1) && decide (x1 < (((List.length s1) : Nat) : Int))) then
        (s1[x1.toNat]?).bind fun e_ =>
        impl_IsPolygon_1 k e_.1 e_.2 fun v =>
        bif v then
          r0 x1
        else
          slices_IndexFunc_impl_Point_impl_Point_1F_impl_IsPolygon_1_l2 k x (w64 (x1 + 1)) s1 b0 r0
      else
        none
    else
      b0 x x1 s1

/-- slices.IndexFunc[[]loop.example/g01297/impl.Point,loop.example/g01297/impl.Point] -/
def slices_IndexFunc_impl_Point_impl_Point_1F_impl_IsPolygon_1 {α : Type} (k : Nat) (s : List (Int × Int)) (r0 : Int → Option α) : Option α :=
  slices_IndexFunc_impl_Point_impl_Point_1F_impl_IsPolygon_1_l2 k (((List.length s) : Nat) : Int) 0 s
    (fun x2 x3 s2 =>
      r0 (-1))
    r0

/-- slices.ContainsFunc[[]loop.example/g01297/impl.Point,loop.example/g01297/impl.Point] -/
def slices_ContainsFunc_impl_Point_impl_Point_1F_impl_IsPolygon_1 {α : Type} (k : Nat) (s : List (Int × Int)) (r0 : Bool → Option α) : Option α :=
  slices_IndexFunc_impl_Point_impl_Point_1F_impl_IsPolygon_1 k s fun v =>
  r0 (decide (0 ≤ v))

/-- (loop.example/g01297/impl.polygon).next -/
def impl_polygon_next {α : Type} (k : Nat) (p_ : List (Int × Int)) (i : Int) (r0 : Int → Int → Option α) : Option α :=
  bif decide ((((List.length p_) : Nat) : Int) = 0) then
    none
  else
  bif (decide (0 ≤ (Int.tmod (w64 (i + 1)) (((List.length p_) : Nat) : Int))) && decide ((Int.tmod (w64 (i + 1)) (((List.length p_) : Nat) : Int)) < (((List.length p_) : Nat) : Int))) then
    (p_[(Int.tmod (w64 (i + 1)) (((List.length p_) : Nat) : Int)).toNat]?).bind fun e_ =>
    r0 e_.1 e_.2
  else
    none

/-- (loop.example/g01297/impl.Point).plus -/
def impl_Point_plus {α : Type} (k : Nat) (a : Int) (a1 : Int) (b_ : Int) (b_1 : Int) (k_ : Int) (r0 : Int → Int → Option α) : Option α :=
  r0 (w64 (a + (w64 (k_ * b_)))) (w64 (a1 + (w64 (k_ * b_1))))

/-- (loop.example/g01297/impl.Point).less -/
def impl_Point_less {α : Type} (k : Nat) (a : Int) (a1 : Int) (b_ : Int) (b_1 : Int) (r0 : Int → Int → Option α) : Option α :=
  impl_Point_plus k a a1 b_ b_1 (-1) fun v v1 =>
  r0 v v1

/-- loop.example/g01297/impl.det -/
def impl_det {α : Type} (k : Nat) (a : Int) (a1 : Int) (b_ : Int) (b_1 : Int) (r0 : Int → Option α) : Option α :=
  r0 (w64 ((w64 (a * b_1)) - (w64 (a1 * b_))))

/-- loop.example/g01297/impl.turn -/
def impl_turn {α : Type} (k : Nat) (a : Int) (a1 : Int) (b_ : Int) (b_1 : Int) (c : Int) (c1 : Int) (r0 : Int → Option α) : Option α :=
  impl_Point_less k b_ b_1 a a1 fun v v1 =>
  impl_Point_less k c c1 b_ b_1 fun v2 v3 =>
  impl_det k v v1 v2 v3 fun v4 =>
  r0 v4

def impl_polygon_convex_l6 {α : Type} : Nat → Int → Int → Int → Int → Int → (List (Int × Int)) → Int → Int → Int → Int → (Int → Int → Int → Int → Int → (List (Int × Int)) → Int → Int → Int → Int → Option α) → (Bool → Option α) → Option α
  | 0, _, _, _, _, _, _, _, _, _, _, _, _ => none
  | k + 1, i, x2, x3, x4, x5, p_2, a, a1, b_, b_1, b2, r0 =>
    bif decide (x5 < x4) then
      bif (decide (0 ≤ x5) && decide (x5 < (((List.length p_2) : Nat) : Int))) then
        (p_2[x5.toNat]?).bind fun e_1 =>
        bif (!decide (x5 = i)) then
          bif decide ((((List.length p_2) : Nat) : Int) = 0) then
            none
          else
          bif (!decide (x5 = (Int.tmod (w64 (i + 1)) (((List.length p_2) : Nat) : Int)))) then
            impl_turn k a a1 b_ b_1 e_1.1 e_1.2 fun v2 =>
            bif decide (v2 ≤ 0) then
              r0 false
            else
              impl_polygon_convex_l6 k i x2 x3 x4 (w64 (x5 + 1)) p_2 a a1 b_ b_1 b2 r0
          else
            impl_polygon_convex_l6 k i x2 x3 x4 (w64 (x5 + 1)) p_2 a a1 b_ b_1 b2 r0
        else
          impl_polygon_convex_l6 k i x2 x3 x4 (w64 (x5 + 1)) p_2 a a1 b_ b_1 b2 r0
      else
        none
    else
      b2 i x2 x3 x4 x5 p_2 a a1 b_ b_1

def impl_polygon_convex_l2 {α : Type} : Nat → Int → Int → (List (Int × Int)) → (Int → Int → (List (Int × Int)) → Option α) → (Bool → Option α) → Option α
  | 0, _, _, _, _, _ => none
  | k + 1, x, x1, p_1, b0, r0 =>
    bif decide (x1 < x) then
      bif (decide (0 ≤ x1) && decide (x1 < (((List.length p_1) : Nat) : Int))) then
        (p_1[x1.toNat]?).bind fun e_ =>
        impl_polygon_next k p_1 x1 fun v v1 =>
        impl_polygon_convex_l6 k x1 x x1 (((List.length p_1) : Nat) : Int) 0 p_1 e_.1 e_.2 v v1
          (fun i1 x6 x7 x8 x9 p_3 a2 a3 b_2 b_3 =>
            impl_polygon_convex_l2 k x6 (w64 (x7 + 1)) p_3 b0 r0)
          r0
      else
        none
    else
      b0 x x1 p_1

/-- (loop.example/g01297/impl.polygon).convex -/
def impl_polygon_convex {α : Type} (k : Nat) (p_ : List (Int × Int)) (r0 : Bool → Option α) : Option α :=
  impl_polygon_convex_l2 k (((List.length p_) : Nat) : Int) 0 p_
    (fun x10 x11 p_4 =>
      r0 true)
    r0

/-- loop.example/g01297/impl.IsPolygon -/
def impl_IsPolygon {α : Type} (k : Nat) (list : List (Int × Int)) (r0 : Bool → Option α) : Option α :=
  impl_in k (((List.length list) : Nat) : Int) 3 12 fun v =>
  bif (!v) then
    r0 false
  else
    slices_ContainsFunc_impl_Point_impl_Point_1F_impl_IsPolygon_1 k list fun v1 =>
    bif v1 then
      r0 false
    else
      impl_polygon_convex k list fun v2 =>
      r0 v2

def impl_polygon_sum_1F_impl_det_l3 {α : Type} : Nat → Int → Int → Int → (List (Int × Int)) → (Int → Int → Int → (List (Int × Int)) → Option α) → (Int → Option α) → Option α
  | 0, _, _, _, _, _, _ => none
  | k + 1, out, x, x1, p_1, b0, r0 =>
    bif decide (x1 < x) then
      bif (decide (0 ≤ x1) && decide (x1 < (((List.length p_1) : Nat) : Int))) then
        (p_1[x1.toNat]?).bind fun e_ =>
        impl_polygon_next k p_1 x1 fun v v1 =>
        impl_det k e_.1 e_.2 v v1 fun v2 =>
        impl_polygon_sum_1F_impl_det_l3 k (w64 (out + v2)) x (w64 (x1 + 1)) p_1 b0 r0
      else
        none
    else
      b0 out x x1 p_1

/-- (loop.example/g01297/impl.polygon).sum -/
def impl_polygon_sum_1F_impl_det {α : Type} (k : Nat) (p_ : List (Int × Int)) (r0 : Int → Option α) : Option α :=
  impl_polygon_sum_1F_impl_det_l3 k 0 (((List.length p_) : Nat) : Int) 0 p_
    (fun out1 x2 x3 p_2 =>
      r0 out1)
    r0

/-- (loop.example/g01297/impl.polygon).area -/
def impl_polygon_area {α : Type} (k : Nat) (p_ : List (Int × Int)) (r0 : Int → Option α) : Option α :=
  impl_polygon_sum_1F_impl_det k p_ fun v =>
  r0 v

/-- loop.example/g01297/impl.size -/
def impl_size {α : Type} (k : Nat) (n_ : Int) (r0 : Int → Option α) : Option α :=
  r0 (max n_ (w64 (0 - n_)))

def impl_gcd_l1 {α : Type} : Nat → Int → Int → (Int → Int → Option α) → (Int → Option α) → Option α
  | 0, _, _, _, _ => none
  | k + 1, a1, b_1, b0, r0 =>
    bif (!decide (b_1 = 0)) then
      bif decide (b_1 = 0) then
        none
      else
        impl_gcd_l1 k b_1 (Int.tmod a1 b_1) b0 r0
    else
      b0 a1 b_1

/-- loop.example/g01297/impl.gcd -/
def impl_gcd {α : Type} (k : Nat) (a : Int) (b_ : Int) (r0 : Int → Option α) : Option α :=
  impl_gcd_l1 k a b_
    (fun a2 b_2 =>
      impl_size k a2 fun v =>
      r0 v)
    r0

/-- (loop.example/g01297/impl.Point).length -/
def impl_Point_length {α : Type} (k : Nat) (a : Int) (a1 : Int) (r0 : Int → Option α) : Option α :=
  impl_gcd k a a1 fun v =>
  r0 v

/-- (loop.example/g01297/impl.polygon).border$1 -/
def impl_polygon_border_1 {α : Type} (k : Nat) (a : Int) (a1 : Int) (b_ : Int) (b_1 : Int) (r0 : Int → Option α) : Option α :=
  impl_Point_less k b_ b_1 a a1 fun v v1 =>
  impl_Point_length k v v1 fun v2 =>
  r0 v2

def impl_polygon_sum_1F_impl_polygon_border_1_l3 {α : Type} : Nat → Int → Int → Int → (List (Int × Int)) → (Int → Int → Int → (List (Int × Int)) → Option α) → (Int → Option α) → Option α
  | 0, _, _, _, _, _, _ => none
  | k + 1, out, x, x1, p_1, b0, r0 =>
    bif decide (x1 < x) then
      bif (decide (0 ≤ x1) && decide (x1 < (((List.length p_1) : Nat) : Int))) then
        (p_1[x1.toNat]?).bind fun e_ =>
        impl_polygon_next k p_1 x1 fun v v1 =>
        impl_polygon_border_1 k e_.1 e_.2 v v1 fun v2 =>
        impl_polygon_sum_1F_impl_polygon_border_1_l3 k (w64 (out + v2)) x (w64 (x1 + 1)) p_1 b0 r0
      else
        none
    else
      b0 out x x1 p_1

/-- (loop.example/g01297/impl.polygon).sum -/
def impl_polygon_sum_1F_impl_polygon_border_1 {α : Type} (k : Nat) (p_ : List (Int × Int)) (r0 : Int → Option α) : Option α :=
  impl_polygon_sum_1F_impl_polygon_border_1_l3 k 0 (((List.length p_) : Nat) : Int) 0 p_
    (fun out1 x2 x3 p_2 =>
      r0 out1)
    r0

/-- (loop.example/g01297/impl.polygon).border -/
def impl_polygon_border {α : Type} (k : Nat) (p_ : List (Int × Int)) (r0 : Int → Option α) : Option α :=
  impl_polygon_sum_1F_impl_polygon_border_1 k p_ fun v =>
  r0 v

/-- (loop.example/g01297/impl.polygon).inner -/
def impl_polygon_inner {α : Type} (k : Nat) (p_ : List (Int × Int)) (r0 : Int → Option α) : Option α :=
  impl_polygon_area k p_ fun v =>
  impl_polygon_border k p_ fun v1 =>
  r0 (w64 (Int.tdiv (w64 ((w64 (v - v1)) + 2)) 2))

/-- cmp.isNaN[int64] -/
def cmp_isNaN_int64 {α : Type} (k : Nat) (x : Int) (r0 : Bool → Option α) : Option α :=
  r0 (!decide (x = x))

/-- cmp.Compare[int64] -/
def cmp_Compare_int64 {α : Type} (k : Nat) (x : Int) (y : Int) (r0 : Int → Option α) : Option α :=
  cmp_isNaN_int64 k x fun v =>
  cmp_isNaN_int64 k y fun v1 =>
  bif v then
    bif v1 then
      r0 0
    else
      r0 (-1)
  else
  bif v1 then
    r0 1
  else
  bif decide (x < y) then
    r0 (-1)
  else
  bif decide (y < x) then
    r0 1
  else
    r0 0

def impl_polygon_where_l3 {α : Type} : Nat → Int → Int → Int → (List (Int × Int)) → Int → Int → (Int → Int → Int → (List (Int × Int)) → Int → Int → Option α) → (Int → Option α) → Option α
  | 0, _, _, _, _, _, _, _, _ => none
  | k + 1, out, x, x1, p_1, a2, a3, b0, r0 =>
    bif decide (x1 < x) then
      bif (decide (0 ≤ x1) && decide (x1 < (((List.length p_1) : Nat) : Int))) then
        (p_1[x1.toNat]?).bind fun e_ =>
        impl_polygon_next k p_1 x1 fun v v1 =>
        impl_turn k e_.1 e_.2 v v1 a2 a3 fun v2 =>
        cmp_Compare_int64 k v2 0 fun v3 =>
        impl_polygon_where_l3 k (min out v3) x (w64 (x1 + 1)) p_1 a2 a3 b0 r0
      else
        none
    else
      b0 out x x1 p_1 a2 a3

/-- (loop.example/g01297/impl.polygon).where -/
def impl_polygon_where {α : Type} (k : Nat) (p_ : List (Int × Int)) (a : Int) (a1 : Int) (r0 : Int → Option α) : Option α :=
  impl_polygon_where_l3 k 1 (((List.length p_) : Nat) : Int) 0 p_ a a1
    (fun out1 x2 x3 p_2 a4 a5 =>
      r0 out1)
    r0

def impl_DualPolygon_l8 {α : Type} : Nat → Int → Int → (List (Int × Int)) → (List (Int × Int)) → (Int → Int → (List (Int × Int)) → (List (Int × Int)) → Option α) → (Int → Option α) → ((List (Int × Int)) → Int → Option α) → Option α
  | 0, _, _, _, _, _, _, _ => none
  | k + 1, x, x1, p_, out, b0, r0, r1 =>
    bif decide (x1 < x) then
      bif (decide (0 ≤ x1) && decide (x1 < (((List.length p_) : Nat) : Int))) then
        (p_[x1.toNat]?).bind fun e_ =>
        impl_polygon_next k p_ x1 fun v3 v4 =>
        impl_det k e_.1 e_.2 v3 v4 fun v5 =>
        bif decide (v5 = 0) then
          none
        else
        bif decide (v5 = 0) then
          none
        else
        bif decide (((List.length out) + 1) ≤ big) then
          impl_DualPolygon_l8 k x (w64 (x1 + 1)) p_ (out ++ [((w64 (Int.tdiv (w64 (e_.2 - v4)) v5)), (w64 (Int.tdiv (w64 (v3 - e_.1)) v5)))]) b0 r0 r1
        else
          none
      else
        none
    else
      b0 x x1 p_ out

/-- loop.example/g01297/impl.DualPolygon -/
def impl_DualPolygon {α : Type} (k : Nat) (list : List (Int × Int)) (r0 : Int → Option α) (r1 : (List (Int × Int)) → Int → Option α) : Option α :=
  impl_IsPolygon k list fun v =>
  bif (!v) then
    r0 1
  else
    impl_polygon_inner k list fun v1 =>
    bif (!decide (v1 = 1)) then
      r0 5
    else
      impl_polygon_where k list 0 0 fun v2 =>
      bif (!decide (v2 = 1)) then
        r0 5
      else
        impl_DualPolygon_l8 k (((List.length list) : Nat) : Int) 0 list []
          (fun x2 x3 p_1 out1 =>
            r1 out1 0)
          r0 r1

/-- loop.example/g01297/laws.eqPointS -/
def laws_eqPointS_0N_1N {α : Type} (k : Nat)  (r0 : Bool → Option α) : Option α :=
  r0 true

/-- loop.example/g01297/laws.eqPoint -/
def laws_eqPoint {α : Type} (k : Nat) (a : Int) (a1 : Int) (b_ : Int) (b_1 : Int) (r0 : Bool → Option α) : Option α :=
  bif (!decide (a = b_)) then
    r0 false
  else
  bif (!decide (a1 = b_1)) then
    r0 false
  else
    r0 true

def laws_eqPointS_l4 {α : Type} : Nat → Int → (List (Int × Int)) → (List (Int × Int)) → (Int → (List (Int × Int)) → (List (Int × Int)) → Option α) → (Bool → Option α) → Option α
  | 0, _, _, _, _, _ => none
  | k + 1, i, a1, b_1, b0, r0 =>
    bif decide (i < (((List.length a1) : Nat) : Int)) then
      bif (decide (0 ≤ i) && decide (i < (((List.length a1) : Nat) : Int))) then
        (a1[i.toNat]?).bind fun e_ =>
        bif (decide (0 ≤ i) && decide (i < (((List.length b_1) : Nat) : Int))) then
          (b_1[i.toNat]?).bind fun e_1 =>
          laws_eqPoint k e_.1 e_.2 e_1.1 e_1.2 fun v =>
          bif (!v) then
            r0 false
          else
            laws_eqPointS_l4 k (w64 (i + 1)) a1 b_1 b0 r0
        else
          none
      else
        none
    else
      b0 i a1 b_1

/-- loop.example/g01297/laws.eqPointS -/
def laws_eqPointS {α : Type} (k : Nat) (a : List (Int × Int)) (b_ : List (Int × Int)) (r0 : Bool → Option α) : Option α :=
  bif (!decide ((((List.length a) : Nat) : Int) = (((List.length b_) : Nat) : Int))) then
    r0 false
  else
    laws_eqPointS_l4 k 0 a b_
      (fun i1 a2 b_2 =>
        r0 true)
      r0

def laws_markPointS_l2 {α : Type} : Nat → Int → Int → (List (Int × Int)) → (Int → Int → (List (Int × Int)) → Option α) → (Int → (List (Int × Int)) → Option α) → Option α
  | 0, _, _, _, _, _ => none
  | k + 1, k_1, i, a1, b0, r0 =>
    bif decide (i < (((List.length a1) : Nat) : Int)) then
      bif (decide (0 ≤ i) && decide (i < (((List.length a1) : Nat) : Int))) then
        (a1[i.toNat]?).bind fun e_ =>
        bif (decide (0 ≤ i) && decide (i < (((List.length (List.set a1 i.toNat (k_1, e_.2))) : Nat) : Int))) then
          ((List.set a1 i.toNat (k_1, e_.2))[i.toNat]?).bind fun e_1 =>
          laws_markPointS_l2 k (w64 ((w64 (k_1 + 1)) + 1)) (w64 (i + 1)) (List.set (List.set a1 i.toNat (k_1, e_.2)) i.toNat (e_1.1, (w64 (k_1 + 1)))) b0 r0
        else
          none
      else
        none
    else
      b0 k_1 i a1

/-- loop.example/g01297/laws.markPointS -/
def laws_markPointS {α : Type} (k : Nat) (a : List (Int × Int)) (k_ : Int) (r0 : Int → (List (Int × Int)) → Option α) : Option α :=
  laws_markPointS_l2 k k_ 0 a
    (fun k_2 i1 a2 =>
      r0 k_2 a2)
    r0

/-- loop.example/g01297/laws.markPointS -/
def laws_markPointS_0N {α : Type} (k : Nat) (k_ : Int) (r0 : Int → Option α) : Option α :=
  r0 k_

/-- loop.example/g01297/laws.heldPointS -/
def laws_heldPointS_0N {α : Type} (k : Nat) (k_ : Int) (r0 : Int → Option α) : Option α :=
  r0 k_

def laws_eqPointS_1N_l4 {α : Type} : Nat → Int → (List (Int × Int)) → (Int → (List (Int × Int)) → Option α) → (Bool → Option α) → Option α
  | 0, _, _, _, _ => none
  | k + 1, i, a1, b0, r0 =>
    bif decide (i < (((List.length a1) : Nat) : Int)) then
      bif (decide (0 ≤ i) && decide (i < (((List.length a1) : Nat) : Int))) then
        (a1[i.toNat]?).bind fun e_ =>
        none
      else
        none
    else
      b0 i a1

/-- loop.example/g01297/laws.eqPointS -/
def laws_eqPointS_1N {α : Type} (k : Nat) (a : List (Int × Int)) (r0 : Bool → Option α) : Option α :=
  bif (!decide ((((List.length a) : Nat) : Int) = 0)) then
    r0 false
  else
    laws_eqPointS_1N_l4 k 0 a
      (fun i1 a2 =>
        r0 true)
      r0

def laws_heldPointS_l2 {α : Type} : Nat → Int → Int → (List (Int × Int)) → (Int → Int → (List (Int × Int)) → Option α) → (Int → Option α) → Option α
  | 0, _, _, _, _, _ => none
  | k + 1, k_1, i, a1, b0, r0 =>
    bif decide (i < (((List.length a1) : Nat) : Int)) then
      bif (decide (0 ≤ i) && decide (i < (((List.length a1) : Nat) : Int))) then
        (a1[i.toNat]?).bind fun e_ =>
        bif (!decide (e_.1 = k_1)) then
          r0 (-1)
        else
        bif (decide (0 ≤ i) && decide (i < (((List.length a1) : Nat) : Int))) then
          (a1[i.toNat]?).bind fun e_1 =>
          bif (!decide (e_1.2 = (w64 (k_1 + 1)))) then
            r0 (-1)
          else
            laws_heldPointS_l2 k (w64 ((w64 (k_1 + 1)) + 1)) (w64 (i + 1)) a1 b0 r0
        else
          none
      else
        none
    else
      b0 k_1 i a1

/-- loop.example/g01297/laws.heldPointS -/
def laws_heldPointS {α : Type} (k : Nat) (a : List (Int × Int)) (k_ : Int) (r0 : Int → Option α) : Option α :=
  laws_heldPointS_l2 k k_ 0 a
    (fun k_2 i1 a2 =>
      r0 k_2)
    r0

/-- loop.example/g01297/laws.eqPointS -/
def laws_eqPointS_0N {α : Type} (k : Nat) (b_ : List (Int × Int)) (r0 : Bool → Option α) : Option α :=
  bif (!decide (0 = (((List.length b_) : Nat) : Int))) then
    r0 false
  else
    r0 true

/-- loop.example/g01297/laws.FnExactDualPolygon -/
def laws_FnExactDualPolygon {α : Type} (k : Nat) (aList : List (Int × Int)) (r0 : Bool → Option α) : Option α :=
  laws_szPointS k aList 1048576 fun v =>
  bif decide (v < 0) then
    r0 true
  else
    laws_toPointS k aList fun v1 =>
    spec_DualPolygon k v1
      (fun v2 =>
        laws_toPointS k aList fun v3 =>
        impl_DualPolygon k v3
          (fun v4 =>
            laws_eqPointS_0N_1N k fun v5 =>
            bif (!v5) then
              r0 false
            else
            bif (!decide (v4 = v2)) then
              r0 false
            else
              laws_toPointS k aList fun v6 =>
              laws_eqPointS k v3 v6 fun v7 =>
              bif (!v7) then
                r0 false
              else
                laws_markPointS k v3 1 fun v8 v9 =>
                bif decide (v8 < 0) then
                  r0 false
                else
                  laws_eqPointS_0N_1N k fun v10 =>
                  bif (!v10) then
                    r0 false
                  else
                  bif (!decide (v4 = v2)) then
                    r0 false
                  else
                    laws_markPointS_0N k 1 fun v11 =>
                    laws_heldPointS_0N k 1 fun v12 =>
                    bif decide (v12 < 0) then
                      r0 false
                    else
                    bif (!decide (v12 = v11)) then
                      r0 false
                    else
                      laws_toPointS k aList fun v13 =>
                      impl_DualPolygon k v13
                        (fun v14 =>
                          laws_eqPointS_0N_1N k fun v15 =>
                          bif (!v15) then
                            r0 false
                          else
                          bif (!decide (v14 = v2)) then
                            r0 false
                          else
                            laws_heldPointS_0N k 1 fun v16 =>
                            bif decide (v16 < 0) then
                              r0 false
                            else
                            bif (!decide (v16 = v11)) then
                              r0 false
                            else
                              r0 true)
                        (fun v17 v18 =>
                          laws_eqPointS_1N k v17 fun v19 =>
                          bif (!v19) then
                            r0 false
                          else
                          bif (!decide (v18 = v2)) then
                            r0 false
                          else
                            laws_heldPointS_0N k 1 fun v20 =>
                            bif decide (v20 < 0) then
                              r0 false
                            else
                            bif (!decide (v20 = v11)) then
                              r0 false
                            else
                              r0 true))
          (fun v21 v22 =>
            laws_eqPointS_1N k v21 fun v23 =>
            bif (!v23) then
              r0 false
            else
            bif (!decide (v22 = v2)) then
              r0 false
            else
              laws_toPointS k aList fun v24 =>
              laws_eqPointS k v3 v24 fun v25 =>
              bif (!v25) then
                r0 false
              else
                laws_markPointS k v3 1 fun v26 v27 =>
                bif decide (v26 < 0) then
                  r0 false
                else
                  laws_eqPointS_1N k v21 fun v28 =>
                  bif (!v28) then
                    r0 false
                  else
                  bif (!decide (v22 = v2)) then
                    r0 false
                  else
                    laws_markPointS k v21 1 fun v29 v30 =>
                    laws_heldPointS k v30 1 fun v31 =>
                    bif decide (v31 < 0) then
                      r0 false
                    else
                    bif (!decide (v31 = v29)) then
                      r0 false
                    else
                      laws_toPointS k aList fun v32 =>
                      impl_DualPolygon k v32
                        (fun v33 =>
                          laws_eqPointS_0N_1N k fun v34 =>
                          bif (!v34) then
                            r0 false
                          else
                          bif (!decide (v33 = v2)) then
                            r0 false
                          else
                            laws_heldPointS k v30 1 fun v35 =>
                            bif decide (v35 < 0) then
                              r0 false
                            else
                            bif (!decide (v35 = v29)) then
                              r0 false
                            else
                              r0 true)
                        (fun v36 v37 =>
                          laws_eqPointS_1N k v36 fun v38 =>
                          bif (!v38) then
                            r0 false
                          else
                          bif (!decide (v37 = v2)) then
                            r0 false
                          else
                            laws_heldPointS k v30 1 fun v39 =>
                            bif decide (v39 < 0) then
                              r0 false
                            else
                            bif (!decide (v39 = v29)) then
                              r0 false
                            else
                              r0 true)))
      (fun v40 v41 =>
        laws_toPointS k aList fun v42 =>
        impl_DualPolygon k v42
          (fun v43 =>
            laws_eqPointS_0N k v40 fun v44 =>
            bif (!v44) then
              r0 false
            else
            bif (!decide (v43 = v41)) then
              r0 false
            else
              laws_toPointS k aList fun v45 =>
              laws_eqPointS k v42 v45 fun v46 =>
              bif (!v46) then
                r0 false
              else
                laws_markPointS k v42 1 fun v47 v48 =>
                bif decide (v47 < 0) then
                  r0 false
                else
                  laws_eqPointS_0N k v40 fun v49 =>
                  bif (!v49) then
                    r0 false
                  else
                  bif (!decide (v43 = v41)) then
                    r0 false
                  else
                    laws_markPointS_0N k 1 fun v50 =>
                    laws_heldPointS_0N k 1 fun v51 =>
                    bif decide (v51 < 0) then
                      r0 false
                    else
                    bif (!decide (v51 = v50)) then
                      r0 false
                    else
                      laws_toPointS k aList fun v52 =>
                      impl_DualPolygon k v52
                        (fun v53 =>
                          laws_eqPointS_0N k v40 fun v54 =>
                          bif (!v54) then
                            r0 false
                          else
                          bif (!decide (v53 = v41)) then
                            r0 false
                          else
                            laws_heldPointS_0N k 1 fun v55 =>
                            bif decide (v55 < 0) then
                              r0 false
                            else
                            bif (!decide (v55 = v50)) then
                              r0 false
                            else
                              r0 true)
                        (fun v56 v57 =>
                          laws_eqPointS k v56 v40 fun v58 =>
                          bif (!v58) then
                            r0 false
                          else
                          bif (!decide (v57 = v41)) then
                            r0 false
                          else
                            laws_heldPointS_0N k 1 fun v59 =>
                            bif decide (v59 < 0) then
                              r0 false
                            else
                            bif (!decide (v59 = v50)) then
                              r0 false
                            else
                              r0 true))
          (fun v60 v61 =>
            laws_eqPointS k v60 v40 fun v62 =>
            bif (!v62) then
              r0 false
            else
            bif (!decide (v61 = v41)) then
              r0 false
            else
              laws_toPointS k aList fun v63 =>
              laws_eqPointS k v42 v63 fun v64 =>
              bif (!v64) then
                r0 false
              else
                laws_markPointS k v42 1 fun v65 v66 =>
                bif decide (v65 < 0) then
                  r0 false
                else
                  laws_eqPointS k v60 v40 fun v67 =>
                  bif (!v67) then
                    r0 false
                  else
                  bif (!decide (v61 = v41)) then
                    r0 false
                  else
                    laws_markPointS k v60 1 fun v68 v69 =>
                    laws_heldPointS k v69 1 fun v70 =>
                    bif decide (v70 < 0) then
                      r0 false
                    else
                    bif (!decide (v70 = v68)) then
                      r0 false
                    else
                      laws_toPointS k aList fun v71 =>
                      impl_DualPolygon k v71
                        (fun v72 =>
                          laws_eqPointS_0N k v40 fun v73 =>
                          bif (!v73) then
                            r0 false
                          else
                          bif (!decide (v72 = v41)) then
                            r0 false
                          else
                            laws_heldPointS k v69 1 fun v74 =>
                            bif decide (v74 < 0) then
                              r0 false
                            else
                            bif (!decide (v74 = v68)) then
                              r0 false
                            else
                              r0 true)
                        (fun v75 v76 =>
                          laws_eqPointS k v75 v40 fun v77 =>
                          bif (!v77) then
                            r0 false
                          else
                          bif (!decide (v76 = v41)) then
                            r0 false
                          else
                            laws_heldPointS k v69 1 fun v78 =>
                            bif decide (v78 < 0) then
                              r0 false
                            else
                            bif (!decide (v78 = v68)) then
                              r0 false
                            else
                              r0 true)))

end Go.Sh
