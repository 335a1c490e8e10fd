/- The program's functions, read without memory: printed by a program of ours. -/
import Derived.Test.YtnfpidnnmgedfaaMaB
namespace Go.Sh
open Go Go.Ev

/-- loop.example/g01297/laws.szPointS -/
def laws_szPointS {α : Type} (k : Nat) (a : List (Int × Int)) (left : Int) (r0 : Int → Option α) : Option α :=
  bif decide ((w64 (left - (((List.length a) : Nat) : Int))) < 0) then
    r0 (-1)
  else
    r0 (w64 (left - (((List.length a) : Nat) : Int)))

/-- loop.example/g01297/laws.toPoint -/
def laws_toPoint {α : Type} (k : Nat) (a : Int) (a1 : Int) (r0 : Int → Int → Option α) : Option α :=
  r0 a a1

def laws_toPointS_l3 {α : Type} : Nat → Int → (List (Int × Int)) → (List (Int × Int)) → (Int → (List (Int × Int)) → (List (Int × Int)) → Option α) → ((List (Int × Int)) → Option α) → Option α
  | 0, _, _, _, _, _ => none
  | k + 1, i, a1, out, b0, r0 =>
    bif decide (i < (((List.length a1) : Nat) : Int)) then
      bif (decide (0 ≤ i) && decide (i < (((List.length a1) : Nat) : Int))) then
        (a1[i.toNat]?).bind fun e_ =>
        laws_toPoint k e_.1 e_.2 fun v v1 =>
        bif (decide (0 ≤ i) && decide (i < (((List.length out) : Nat) : Int))) then
          (out[i.toNat]?).bind fun e_1 =>
          laws_toPointS_l3 k (w64 (i + 1)) a1 (List.set out i.toNat (v, v1)) b0 r0
        else
          none
      else
        none
    else
      b0 i a1 out

/-- loop.example/g01297/laws.toPointS -/
def laws_toPointS {α : Type} (k : Nat) (a : List (Int × Int)) (r0 : (List (Int × Int)) → Option α) : Option α :=
  bif (decide (0 ≤ (((List.length a) : Nat) : Int)) && decide ((((List.length a) : Nat) : Int) ≤ (big : Int))) then
    laws_toPointS_l3 k 0 a (List.replicate (((List.length a) : Nat) : Int).toNat (0, 0))
      (fun i1 a2 out1 =>
        r0 out1)
      r0
  else
    none

/-- loop.example/g01297/spec.l01In -/
def spec_l01In {α : Type} (k : Nat) (n_ : Int) (low : Int) (high : Int) (r0 : Bool → Option α) : Option α :=
  bif decide (low ≤ n_) then
    r0 (decide (n_ ≤ high))
  else
    r0 false

/-- loop.example/g01297/spec.l01Fits -/
def spec_l01Fits {α : Type} (k : Nat) (x : Int) (r0 : Bool → Option α) : Option α :=
  spec_l01In k x (-1000000) 1000000 fun v =>
  r0 v

/-- loop.example/g01297/spec.l01Is -/
def spec_l01Is {α : Type} (k : Nat) (a : Int) (a1 : Int) (r0 : Bool → Option α) : Option α :=
  spec_l01Fits k a fun v =>
  bif v then
    spec_l01Fits k a1 fun v1 =>
    r0 v1
  else
    r0 false

/-- loop.example/g01297/spec.l01Plus -/
def spec_l01Plus {α : Type} (k : Nat) (a : Int) (a1 : Int) (b_ : Int) (b_1 : Int) (k_ : Int) (r0 : Int → Int → Option α) : Option α :=
  r0 (w64 (a + (w64 (k_ * b_)))) (w64 (a1 + (w64 (k_ * b_1))))

/-- loop.example/g01297/spec.l01Det -/
def spec_l01Det {α : Type} (k : Nat) (a : Int) (a1 : Int) (b_ : Int) (b_1 : Int) (r0 : Int → Option α) : Option α :=
  r0 (w64 ((w64 (a * b_1)) - (w64 (a1 * b_))))

/-- loop.example/g01297/spec.l09Side -/
def spec_l09Side {α : Type} (k : Nat) (a : Int) (a1 : Int) (b_ : Int) (b_1 : Int) (c : Int) (c1 : Int) (r0 : Int → Option α) : Option α :=
  spec_l01Plus k b_ b_1 a a1 (-1) fun v v1 =>
  spec_l01Plus k c c1 b_ b_1 (-1) fun v2 v3 =>
  spec_l01Det k v v1 v2 v3 fun v4 =>
  r0 v4

/-- loop.example/g01297/spec.l09Half -/
def spec_l09Half {α : Type} (k : Nat) (a : Int) (a1 : Int) (r0 : Int → Option α) : Option α :=
  bif decide (0 < a1) then
    r0 0
  else
  bif decide (a1 = 0) then
    bif decide (0 < a) then
      r0 0
    else
      r0 1
  else
    r0 1

def spec_l09Is_l6 {α : Type} : Nat → Int → Int → Int → (List (Int × Int)) → (Int → Int → Int → (List (Int × Int)) → Option α) → (Bool → Option α) → Option α
  | 0, _, _, _, _, _, _ => none
  | k + 1, n_, turns, i, list1, b0, r0 =>
    bif decide (i < n_) then
      bif (decide (0 ≤ i) && decide (i < (((List.length list1) : Nat) : Int))) then
        (list1[i.toNat]?).bind fun e_ =>
        bif decide (n_ = 0) then
          none
        else
        bif (decide (0 ≤ (Int.tmod (w64 (i + 1)) n_)) && decide ((Int.tmod (w64 (i + 1)) n_) < (((List.length list1) : Nat) : Int))) then
          (list1[(Int.tmod (w64 (i + 1)) n_).toNat]?).bind fun e_1 =>
          bif decide (n_ = 0) then
            none
          else
          bif (decide (0 ≤ (Int.tmod (w64 (i + 2)) n_)) && decide ((Int.tmod (w64 (i + 2)) n_) < (((List.length list1) : Nat) : Int))) then
            (list1[(Int.tmod (w64 (i + 2)) n_).toNat]?).bind fun e_2 =>
            spec_l01In k e_.1 (-1000) 1000 fun v =>
            bif (!v) then
              r0 false
            else
              spec_l01In k e_.2 (-1000) 1000 fun v1 =>
              bif (!v1) then
                r0 false
              else
                spec_l01Is k e_1.1 e_1.2 fun v2 =>
                bif (!v2) then
                  r0 false
                else
                  spec_l01Is k e_2.1 e_2.2 fun v3 =>
                  bif (!v3) then
                    r0 false
                  else
                    spec_l09Side k e_.1 e_.2 e_1.1 e_1.2 e_2.1 e_2.2 fun v4 =>
                    bif decide (v4 ≤ 0) then
                      r0 false
                    else
                      spec_l01Plus k e_1.1 e_1.2 e_.1 e_.2 (-1) fun v5 v6 =>
                      spec_l09Half k v5 v6 fun v7 =>
                      bif decide (v7 = 1) then
                        spec_l01Plus k e_2.1 e_2.2 e_1.1 e_1.2 (-1) fun v8 v9 =>
                        spec_l09Half k v8 v9 fun v10 =>
                        bif decide (v10 = 0) then
                          spec_l09Is_l6 k n_ (w64 (turns + 1)) (w64 (i + 1)) list1 b0 r0
                        else
                          spec_l09Is_l6 k n_ turns (w64 (i + 1)) list1 b0 r0
                      else
                        spec_l09Is_l6 k n_ turns (w64 (i + 1)) list1 b0 r0
          else
            none
        else
          none
      else
        none
    else
      b0 n_ turns i list1

/-- loop.example/g01297/spec.l09Is -/
def spec_l09Is {α : Type} (k : Nat) (list : List (Int × Int)) (r0 : Bool → Option α) : Option α :=
  bif decide ((((List.length list) : Nat) : Int) < 3) then
    r0 false
  else
  bif decide (12 < (((List.length list) : Nat) : Int)) then
    r0 false
  else
    spec_l09Is_l6 k (((List.length list) : Nat) : Int) 0 0 list
      (fun n_1 turns1 i1 list2 =>
        r0 (decide (turns1 = 1)))
      r0

def spec_l01Gcd_l1 {α : Type} : Nat → Int → Int → (Int → Int → Option α) → (Int → Option α) → Option α
  | 0, _, _, _, _ => none
  | k + 1, a1, b_1, b0, r0 =>
    bif (!decide (b_1 = 0)) then
      bif decide (b_1 = 0) then
        none
      else
        spec_l01Gcd_l1 k b_1 (Int.tmod a1 b_1) b0 r0
    else
      b0 a1 b_1

/-- loop.example/g01297/spec.l01Gcd -/
def spec_l01Gcd {α : Type} (k : Nat) (a : Int) (b_ : Int) (r0 : Int → Option α) : Option α :=
  spec_l01Gcd_l1 k a b_
    (fun a2 b_2 =>
      r0 (max a2 (w64 (0 - a2))))
    r0

def spec_WidthFor_l7 {α : Type} : Nat → Int → Int → Int → (List (Int × Int)) → Int → Int → (Int → Int → Int → (List (Int × Int)) → Int → Int → Option α) → (Int → Int → Option α) → Option α
  | 0, _, _, _, _, _, _, _, _ => none
  | k + 1, least, most, i, list1, u2, u3, b1, r0 =>
    bif decide (i < (((List.length list1) : Nat) : Int)) then
      bif (decide (0 ≤ i) && decide (i < (((List.length list1) : Nat) : Int))) then
        (list1[i.toNat]?).bind fun e_ =>
        bif (decide (0 ≤ i) && decide (i < (((List.length list1) : Nat) : Int))) then
          (list1[i.toNat]?).bind fun e_1 =>
          bif decide (i = 0) then
            bif decide (i = 0) then
              spec_WidthFor_l7 k (w64 ((w64 (u2 * e_.1)) + (w64 (u3 * e_1.2)))) (w64 ((w64 (u2 * e_.1)) + (w64 (u3 * e_1.2)))) (w64 (i + 1)) list1 u2 u3 b1 r0
            else
            bif decide (most < (w64 ((w64 (u2 * e_.1)) + (w64 (u3 * e_1.2))))) then
              spec_WidthFor_l7 k (w64 ((w64 (u2 * e_.1)) + (w64 (u3 * e_1.2)))) (w64 ((w64 (u2 * e_.1)) + (w64 (u3 * e_1.2)))) (w64 (i + 1)) list1 u2 u3 b1 r0
            else
              spec_WidthFor_l7 k (w64 ((w64 (u2 * e_.1)) + (w64 (u3 * e_1.2)))) most (w64 (i + 1)) list1 u2 u3 b1 r0
          else
          bif decide ((w64 ((w64 (u2 * e_.1)) + (w64 (u3 * e_1.2)))) < least) then
            bif decide (i = 0) then
              spec_WidthFor_l7 k (w64 ((w64 (u2 * e_.1)) + (w64 (u3 * e_1.2)))) (w64 ((w64 (u2 * e_.1)) + (w64 (u3 * e_1.2)))) (w64 (i + 1)) list1 u2 u3 b1 r0
            else
            bif decide (most < (w64 ((w64 (u2 * e_.1)) + (w64 (u3 * e_1.2))))) then
              spec_WidthFor_l7 k (w64 ((w64 (u2 * e_.1)) + (w64 (u3 * e_1.2)))) (w64 ((w64 (u2 * e_.1)) + (w64 (u3 * e_1.2)))) (w64 (i + 1)) list1 u2 u3 b1 r0
            else
              spec_WidthFor_l7 k (w64 ((w64 (u2 * e_.1)) + (w64 (u3 * e_1.2)))) most (w64 (i + 1)) list1 u2 u3 b1 r0
          else
          bif decide (i = 0) then
            spec_WidthFor_l7 k least (w64 ((w64 (u2 * e_.1)) + (w64 (u3 * e_1.2)))) (w64 (i + 1)) list1 u2 u3 b1 r0
          else
          bif decide (most < (w64 ((w64 (u2 * e_.1)) + (w64 (u3 * e_1.2))))) then
            spec_WidthFor_l7 k least (w64 ((w64 (u2 * e_.1)) + (w64 (u3 * e_1.2)))) (w64 (i + 1)) list1 u2 u3 b1 r0
          else
            spec_WidthFor_l7 k least most (w64 (i + 1)) list1 u2 u3 b1 r0
        else
          none
      else
        none
    else
      b1 least most i list1 u2 u3

/-- loop.example/g01297/spec.WidthFor -/
def spec_WidthFor {α : Type} (k : Nat) (list : List (Int × Int)) (u : Int) (u1 : Int) (r0 : Int → Int → Option α) : Option α :=
  spec_l09Is k list fun v =>
  bif (!v) then
    r0 0 1
  else
    spec_l01Is k u u1 fun v1 =>
    bif (!v1) then
      r0 0 1
    else
      spec_l01Gcd k u u1 fun v2 =>
      bif (!decide (v2 = 1)) then
        r0 0 5
      else
        spec_WidthFor_l7 k 0 0 0 list u u1
          (fun least1 most1 i1 list2 u4 u5 =>
            r0 (w64 (most1 - least1)) 0)
          r0

/-- loop.example/g01297/impl.in -/
def impl_in {α : Type} (k : Nat) (n_ : Int) (low : Int) (high : Int) (r0 : Bool → Option α) : Option α :=
  bif decide (low ≤ n_) then
    r0 (decide (n_ ≤ high))
  else
    r0 false

/-- loop.example/g01297/impl.small -/
def impl_small {α : Type} (k : Nat) (a : Int) (a1 : Int) (r0 : Bool → Option α) : Option α :=
  impl_in k a (-1000) 1000 fun v =>
  bif v then
    impl_in k a1 (-1000) 1000 fun v1 =>
    r0 v1
  else
    r0 false

/-- loop.example/g01297/impl.IsPolygon$1 -/
def impl_IsPolygon_1 {α : Type} (k : Nat) (a : Int) (a1 : Int) (r0 : Bool → Option α) : Option α :=
  impl_small k a a1 fun v =>
  r0 (!v)

def slices_IndexFunc_impl_Point_impl_Point_1F_impl_IsPolygon_1_l2 {α : Type} : Nat → Int → Int → (List (Int × Int)) → (Int → Int → (List (Int × Int)) → Option α) → (Int → Option α) → Option α
  | 0, _, _, _, _, _ => none
  | k + 1, x, x1, s1, b0, r0 =>
    bif decide (x1 < x) then
      bif (decide (0 ≤ x1) && decide (x1 < (((List.length s1) : Nat) : Int))) then
        (s1[x1.toNat]?).bind fun e_ =>
        impl_IsPolygon_1 k e_.1 e_.2 fun v =>
        bif v then
          r0 x1
        else
          slices_IndexFunc_impl_Point_impl_Point_1F_impl_IsPolygon_1_l2 k x (w64 (x1 + 1)) s1 b0 r0
      else
        none
    else
      b0 x x1 s1

/-- slices.IndexFunc[[]loop.example/g01297/impl.Point,loop.example/g01297/impl.Point] -/
def slices_IndexFunc_impl_Point_impl_Point_1F_impl_IsPolygon_1 {α : Type} (k : Nat) (s : List (Int × Int)) (r0 : Int → Option α) : Option α :=
  slices_IndexFunc_impl_Point_impl_Point_1F_impl_IsPolygon_1_l2 k (((List.length s) : Nat) : Int) 0 s
    (fun x2 x3 s2 =>
      r0 (-1))
    r0

/-- slices.ContainsFunc[[]loop.example/g01297/impl.Point,loop.example/g01297/impl.Point] -/
def slices_ContainsFunc_impl_Point_impl_Point_1F_impl_IsPolygon_1 {α : Type} (k : Nat) (s : List (Int × Int)) (r0 : Bool → Option α) : Option α :=
  slices_IndexFunc_impl_Point_impl_Point_1F_impl_IsPolygon_1 k s fun v =>
  r0 (decide (0 ≤ v))

/-- (loop.example/g01297/impl.polygon).next -/
def impl_polygon_next {α : Type} (k : Nat) (p_ : List (Int × Int)) (i : Int) (r0 : Int → Int → Option α) : Option α :=
  bif decide ((((List.length p_) : Nat) : Int) = 0) then
    none
  else
  bif (decide (0 ≤ (Int.tmod (w64 (i + 1)) (((List.length p_) : Nat) : Int))) && decide ((Int.tmod (w64 (i + 1)) (((List.length p_) : Nat) : Int)) < (((List.length p_) : Nat) : Int))) then
    (p_[(Int.tmod (w64 (i + 1)) (((List.length p_) : Nat) : Int)).toNat]?).bind fun e_ =>
    r0 e_.1 e_.2
  else
    none

/-- (loop.example/g01297/impl.Point).plus -/
def impl_Point_plus {α : Type} (k : Nat) (a : Int) (a1 : Int) (b_ : Int) (b_1 : Int) (k_ : Int) (r0 : Int → Int → Option α) : Option α :=
  r0 (w64 (a + (w64 (k_ * b_)))) (w64 (a1 + (w64 (k_ * b_1))))

/-- (loop.example/g01297/impl.Point).less -/
def impl_Point_less {α : Type} (k : Nat) (a : Int) (a1 : Int) (b_ : Int) (b_1 : Int) (r0 : Int → Int → Option α) : Option α :=
  impl_Point_plus k a a1 b_ b_1 (-1) fun v v1 =>
  r0 v v1

/-- loop.example/g01297/impl.det -/
def impl_det {α : Type} (k : Nat) (a : Int) (a1 : Int) (b_ : Int) (b_1 : Int) (r0 : Int → Option α) : Option α :=
  r0 (w64 ((w64 (a * b_1)) - (w64 (a1 * b_))))

/-- loop.example/g01297/impl.turn -/
def impl_turn {α : Type} (k : Nat) (a : Int) (a1 : Int) (b_ : Int) (b_1 : Int) (c : Int) (c1 : Int) (r0 : Int → Option α) : Option α :=
  impl_Point_less k b_ b_1 a a1 fun v v1 =>
  impl_Point_less k c c1 b_ b_1 fun v2 v3 =>
  impl_det k v v1 v2 v3 fun v4 =>
  r0 v4

def impl_polygon_convex_l6 {α : Type} : Nat → Int → Int → Int → Int → Int → (List (Int × Int)) → Int → Int → Int → Int → (Int → Int → Int → Int → Int → (List (Int × Int)) → Int → Int → Int → Int → Option α) → (Bool → Option α) → Option α
  | 0, _, _, _, _, _, _, _, _, _, _, _, _ => none
  | k + 1, i, x2, x3, x4, x5, p_2, a, a1, b_, b_1, b2, r0 =>
    bif decide (x5 < x4) then
      bif (decide (0 ≤ x5) && decide (x5 < (((List.length p_2) : Nat) : Int))) then
        (p_2[x5.toNat]?).bind fun e_1 =>
        bif (!decide (x5 = i)) then
          bif decide ((((List.length p_2) : Nat) : Int) = 0) then
            none
          else
          bif (!decide (x5 = (Int.tmod (w64 (i + 1)) (((List.length p_2) : Nat) : Int)))) then
            impl_turn k a a1 b_ b_1 e_1.1 e_1.2 fun v2 =>
            bif decide (v2 ≤ 0) then
              r0 false
            else
              impl_polygon_convex_l6 k i x2 x3 x4 (w64 (x5 + 1)) p_2 a a1 b_ b_1 b2 r0
          else
            impl_polygon_convex_l6 k i x2 x3 x4 (w64 (x5 + 1)) p_2 a a1 b_ b_1 b2 r0
        else
          impl_polygon_convex_l6 k i x2 x3 x4 (w64 (x5 + 1)) p_2 a a1 b_ b_1 b2 r0
      else
        none
    else
      b2 i x2 x3 x4 x5 p_2 a a1 b_ b_1

def impl_polygon_convex_l2 {α : Type} : Nat → Int → Int → (List (Int × Int)) → (Int → Int → (List (Int × Int)) → Option α) → (Bool → Option α) → Option α
  | 0, _, _, _, _, _ => none
  | k + 1, x, x1, p_1, b0, r0 =>
    bif decide (x1 < x) then
      bif (decide (0 ≤ x1) && decide (x1 < (((List.length p_1) : Nat) : Int))) then
        (p_1[x1.toNat]?).bind fun e_ =>
        impl_polygon_next k p_1 x1 fun v v1 =>
        impl_polygon_convex_l6 k x1 x x1 (((List.length p_1) : Nat) : Int) 0 p_1 e_.1 e_.2 v v1
          (fun i1 x6 x7 x8 x9 p_3 a2 a3 b_2 b_3 =>
            impl_polygon_convex_l2 k x6 (w64 (x7 + 1)) p_3 b0 r0)
          r0
      else
        none
    else
      b0 x x1 p_1

/-- (loop.example/g01297/impl.polygon).convex -/
def impl_polygon_convex {α : Type} (k : Nat) (p_ : List (Int × Int)) (r0 : Bool → Option α) : Option α :=
  impl_polygon_convex_l2 k (((List.length p_) : Nat) : Int) 0 p_
    (fun x10 x11 p_4 =>
      r0 true)
    r0

/-- loop.example/g01297/impl.IsPolygon -/
def impl_IsPolygon {α : Type} (k : Nat) (list : List (Int × Int)) (r0 : Bool → Option α) : Option α :=
  impl_in k (((List.length list) : Nat) : Int) 3 12 fun v =>
  bif (!v) then
    r0 false
  else
    slices_ContainsFunc_impl_Point_impl_Point_1F_impl_IsPolygon_1 k list fun v1 =>
    bif v1 then
      r0 false
    else
      impl_polygon_convex k list fun v2 =>
      r0 v2

/-- loop.example/g01297/impl.isCoord -/
def impl_isCoord {α : Type} (k : Nat) (n_ : Int) (r0 : Bool → Option α) : Option α :=
  impl_in k n_ (-1000000) 1000000 fun v =>
  r0 v

/-- loop.example/g01297/impl.IsPoint -/
def impl_IsPoint {α : Type} (k : Nat) (a : Int) (a1 : Int) (r0 : Bool → Option α) : Option α :=
  impl_isCoord k a fun v =>
  bif v then
    impl_isCoord k a1 fun v1 =>
    r0 v1
  else
    r0 false

/-- loop.example/g01297/impl.size -/
def impl_size {α : Type} (k : Nat) (n_ : Int) (r0 : Int → Option α) : Option α :=
  r0 (max n_ (w64 (0 - n_)))

def impl_gcd_l1 {α : Type} : Nat → Int → Int → (Int → Int → Option α) → (Int → Option α) → Option α
  | 0, _, _, _, _ => none
  | k + 1, a1, b_1, b0, r0 =>
    bif (!decide (b_1 = 0)) then
      bif decide (b_1 = 0) then
        none
      else
        impl_gcd_l1 k b_1 (Int.tmod a1 b_1) b0 r0
    else
      b0 a1 b_1

/-- loop.example/g01297/impl.gcd -/
def impl_gcd {α : Type} (k : Nat) (a : Int) (b_ : Int) (r0 : Int → Option α) : Option α :=
  impl_gcd_l1 k a b_
    (fun a2 b_2 =>
      impl_size k a2 fun v =>
      r0 v)
    r0

/-- (loop.example/g01297/impl.Point).length -/
def impl_Point_length {α : Type} (k : Nat) (a : Int) (a1 : Int) (r0 : Int → Option α) : Option α :=
  impl_gcd k a a1 fun v =>
  r0 v

/-- (loop.example/g01297/impl.Point).isPrimitive -/
def impl_Point_isPrimitive {α : Type} (k : Nat) (a : Int) (a1 : Int) (r0 : Bool → Option α) : Option α :=
  impl_Point_length k a a1 fun v =>
  r0 (decide (v = 1))

/-- loop.example/g01297/impl.dot -/
def impl_dot {α : Type} (k : Nat) (a : Int) (a1 : Int) (b_ : Int) (b_1 : Int) (r0 : Int → Option α) : Option α :=
  r0 (w64 ((w64 (a * b_)) + (w64 (a1 * b_1))))

def slices_Max_int64_int64_l5 {α : Type} : Nat → Int → Int → List Int → (Int → Int → List Int → Option α) → (Int → Option α) → Option α
  | 0, _, _, _, _, _ => none
  | k + 1, m, i, x1, b0, r0 =>
    bif decide (i < (((List.length x1) : Nat) : Int)) then
      bif (decide (0 ≤ i) && decide (i < (((List.length x1) : Nat) : Int))) then
        (x1[i.toNat]?).bind fun e_1 =>
        slices_Max_int64_int64_l5 k (max m e_1) (w64 (i + 1)) x1 b0 r0
      else
        none
    else
      b0 m i x1

/-- slices.Max[[]int64,int64] -/
def slices_Max_int64_int64 {α : Type} (k : Nat) (x : List Int) (r0 : Int → Option α) : Option α :=
  bif decide ((((List.length x) : Nat) : Int) < 1) then
    none
  else
  bif (true && decide (0 < (((List.length x) : Nat) : Int))) then
    (x[0]?).bind fun e_ =>
    slices_Max_int64_int64_l5 k e_ 1 x
      (fun m1 i1 x2 =>
        r0 m1)
      r0
  else
    none

def slices_Min_int64_int64_l5 {α : Type} : Nat → Int → Int → List Int → (Int → Int → List Int → Option α) → (Int → Option α) → Option α
  | 0, _, _, _, _, _ => none
  | k + 1, m, i, x1, b0, r0 =>
    bif decide (i < (((List.length x1) : Nat) : Int)) then
      bif (decide (0 ≤ i) && decide (i < (((List.length x1) : Nat) : Int))) then
        (x1[i.toNat]?).bind fun e_1 =>
        slices_Min_int64_int64_l5 k (min m e_1) (w64 (i + 1)) x1 b0 r0
      else
        none
    else
      b0 m i x1

/-- slices.Min[[]int64,int64] -/
def slices_Min_int64_int64 {α : Type} (k : Nat) (x : List Int) (r0 : Int → Option α) : Option α :=
  bif decide ((((List.length x) : Nat) : Int) < 1) then
    none
  else
  bif (true && decide (0 < (((List.length x) : Nat) : Int))) then
    (x[0]?).bind fun e_ =>
    slices_Min_int64_int64_l5 k e_ 1 x
      (fun m1 i1 x2 =>
        r0 m1)
      r0
  else
    none

def impl_WidthFor_l7 {α : Type} : Nat → Int → Int → Int → Int → List Int → (List (Int × Int)) → (Int → Int → Int → Int → List Int → (List (Int × Int)) → Option α) → (Int → Int → Option α) → Option α
  | 0, _, _, _, _, _, _, _, _ => none
  | k + 1, x, x1, u2, u3, values, x2, b1, r0 =>
    bif decide (x1 < x) then
      bif (decide (0 ≤ x1) && decide (x1 < (((List.length x2) : Nat) : Int))) then
        (x2[x1.toNat]?).bind fun e_ =>
        impl_dot k u2 u3 e_.1 e_.2 fun v3 =>
        bif decide (((List.length values) + 1) ≤ big) then
          impl_WidthFor_l7 k x (w64 (x1 + 1)) u2 u3 (values ++ [v3]) x2 b1 r0
        else
          none
      else
        none
    else
      b1 x x1 u2 u3 values x2

/-- loop.example/g01297/impl.WidthFor -/
def impl_WidthFor {α : Type} (k : Nat) (list : List (Int × Int)) (u : Int) (u1 : Int) (r0 : Int → Int → Option α) : Option α :=
  impl_IsPolygon k list fun v =>
  bif (!v) then
    r0 0 1
  else
    impl_IsPoint k u u1 fun v1 =>
    bif (!v1) then
      r0 0 1
    else
      impl_Point_isPrimitive k u u1 fun v2 =>
      bif (!v2) then
        r0 0 5
      else
        impl_WidthFor_l7 k (((List.length list) : Nat) : Int) 0 u u1 [] list
          (fun x3 x4 u4 u5 values1 x5 =>
            slices_Max_int64_int64 k values1 fun v4 =>
            slices_Min_int64_int64 k values1 fun v5 =>
            r0 (w64 (v4 - v5)) 0)
          r0

/-- loop.example/g01297/laws.eqPoint -/
def laws_eqPoint {α : Type} (k : Nat) (a : Int) (a1 : Int) (b_ : Int) (b_1 : Int) (r0 : Bool → Option α) : Option α :=
  bif (!decide (a = b_)) then
    r0 false
  else
  bif (!decide (a1 = b_1)) then
    r0 false
  else
    r0 true

def laws_eqPointS_l4 {α : Type} : Nat → Int → (List (Int × Int)) → (List (Int × Int)) → (Int → (List (Int × Int)) → (List (Int × Int)) → Option α) → (Bool → Option α) → Option α
  | 0, _, _, _, _, _ => none
  | k + 1, i, a1, b_1, b0, r0 =>
    bif decide (i < (((List.length a1) : Nat) : Int)) then
      bif (decide (0 ≤ i) && decide (i < (((List.length a1) : Nat) : Int))) then
        (a1[i.toNat]?).bind fun e_ =>
        bif (decide (0 ≤ i) && decide (i < (((List.length b_1) : Nat) : Int))) then
          (b_1[i.toNat]?).bind fun e_1 =>
          laws_eqPoint k e_.1 e_.2 e_1.1 e_1.2 fun v =>
          bif (!v) then
            r0 false
          else
            laws_eqPointS_l4 k (w64 (i + 1)) a1 b_1 b0 r0
        else
          none
      else
        none
    else
      b0 i a1 b_1

/-- loop.example/g01297/laws.eqPointS -/
def laws_eqPointS {α : Type} (k : Nat) (a : List (Int × Int)) (b_ : List (Int × Int)) (r0 : Bool → Option α) : Option α :=
  bif (!decide ((((List.length a) : Nat) : Int) = (((List.length b_) : Nat) : Int))) then
    r0 false
  else
    laws_eqPointS_l4 k 0 a b_
      (fun i1 a2 b_2 =>
        r0 true)
      r0

/-- loop.example/g01297/laws.FnExactWidthFor -/
def laws_FnExactWidthFor {α : Type} (k : Nat) (aList : List (Int × Int)) (aU : Int) (aU1 : Int) (r0 : Bool → Option α) : Option α :=
  laws_szPointS k aList 1048576 fun v =>
  bif decide (v < 0) then
    r0 true
  else
    laws_toPointS k aList fun v1 =>
    laws_toPoint k aU aU1 fun v2 v3 =>
    spec_WidthFor k v1 v2 v3 fun v4 v5 =>
    laws_toPointS k aList fun v6 =>
    laws_toPoint k aU aU1 fun v7 v8 =>
    impl_WidthFor k v6 v7 v8 fun v9 v10 =>
    bif (!decide (v9 = v4)) then
      r0 false
    else
    bif (!decide (v10 = v5)) then
      r0 false
    else
      laws_toPointS k aList fun v11 =>
      laws_eqPointS k v6 v11 fun v12 =>
      bif (!v12) then
        r0 false
      else
        r0 true

end Go.Sh
