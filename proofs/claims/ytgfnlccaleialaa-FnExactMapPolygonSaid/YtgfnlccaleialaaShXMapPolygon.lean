/- The program's functions, read without memory: printed by a program of ours. -/
import Derived.Test.YtgfnlccaleialaaMaB
import Derived.Test.YtgfnlccaleialaaEvSort
namespace Go.Sh
open Go Go.Ev

/-- loop.example/g01297/laws.szPointS -/
def laws_szPointS {α : Type} (k : Nat) (a : List (Int × Int)) (left : Int) (r0 : Int → Option α) : Option α :=
  bif decide ((w64 (left - (((List.length a) : Nat) : Int))) < 0) then
    r0 (-1)
  else
    r0 (w64 (left - (((List.length a) : Nat) : Int)))

/-- loop.example/g01297/laws.toInt64A2 -/
def laws_toInt64A2 {α : Type} (k : Nat) (a : Int) (a1 : Int) (r0 : Int → Int → Option α) : Option α :=
  r0 a a1

/-- loop.example/g01297/laws.toMatrix -/
def laws_toMatrix {α : Type} (k : Nat) (a : Int) (a1 : Int) (a2 : Int) (a3 : Int) (r0 : Int → Int → Int → Int → Option α) : Option α :=
  laws_toInt64A2 k a a1 fun v v1 =>
  laws_toInt64A2 k a2 a3 fun v2 v3 =>
  r0 v v1 v2 v3

/-- loop.example/g01297/laws.toPoint -/
def laws_toPoint {α : Type} (k : Nat) (a : Int) (a1 : Int) (r0 : Int → Int → Option α) : Option α :=
  r0 a a1

def laws_toPointS_l3 {α : Type} : Nat → Int → (List (Int × Int)) → (List (Int × Int)) → (Int → (List (Int × Int)) → (List (Int × Int)) → Option α) → ((List (Int × Int)) → Option α) → Option α
  | 0, _, _, _, _, _ => none
  | k + 1, i, a1, out, b0, r0 =>
    bif decide (i < (((List.length a1) : Nat) : Int)) then
      bif (decide (0 ≤ i) && decide (i < (((List.length a1) : Nat) : Int))) then
        (a1[i.toNat]?).bind fun e_ =>
        laws_toPoint k e_.1 e_.2 fun v v1 =>
        bif (decide (0 ≤ i) && decide (i < (((List.length out) : Nat) : Int))) then
          (out[i.toNat]?).bind fun _ =>
          laws_toPointS_l3 k (w64 (i + 1)) a1 (List.set out i.toNat (v, v1)) b0 r0
        else
          none
      else
        none
    else
      b0 i a1 out

/-- loop.example/g01297/laws.toPointS -/
def laws_toPointS {α : Type} (k : Nat) (a : List (Int × Int)) (r0 : (List (Int × Int)) → Option α) : Option α :=
  bif (decide (0 ≤ (((List.length a) : Nat) : Int)) && decide ((((List.length a) : Nat) : Int) ≤ (big : Int))) then
    laws_toPointS_l3 k 0 a (List.replicate (((List.length a) : Nat) : Int).toNat (0, 0))
      (fun _ _ out1 =>
        r0 out1)
      r0
  else
    none

/-- loop.example/g01297/spec.l01In -/
def spec_l01In {α : Type} (k : Nat) (n_ : Int) (low : Int) (high : Int) (r0 : Bool → Option α) : Option α :=
  bif decide (low ≤ n_) then
    r0 (decide (n_ ≤ high))
  else
    r0 false

/-- loop.example/g01297/spec.l01Fits -/
def spec_l01Fits {α : Type} (k : Nat) (x : Int) (r0 : Bool → Option α) : Option α :=
  spec_l01In k x (-1000000) 1000000 fun v =>
  r0 v

/-- loop.example/g01297/spec.l01Matrix -/
def spec_l01Matrix {α : Type} (k : Nat) (m : Int) (m1 : Int) (m2 : Int) (m3 : Int) (r0 : Bool → Option α) : Option α :=
  spec_l01Fits k m fun v =>
  bif v then
    spec_l01Fits k m1 fun v1 =>
    bif v1 then
      spec_l01Fits k m2 fun v2 =>
      bif v2 then
        spec_l01Fits k m3 fun v3 =>
        r0 v3
      else
        r0 false
    else
      r0 false
  else
    r0 false

/-- loop.example/g01297/spec.l01Is -/
def spec_l01Is {α : Type} (k : Nat) (a : Int) (a1 : Int) (r0 : Bool → Option α) : Option α :=
  spec_l01Fits k a fun v =>
  bif v then
    spec_l01Fits k a1 fun v1 =>
    r0 v1
  else
    r0 false

/-- loop.example/g01297/spec.l01Plus -/
def spec_l01Plus {α : Type} (k : Nat) (a : Int) (a1 : Int) (b_ : Int) (b_1 : Int) (k_ : Int) (r0 : Int → Int → Option α) : Option α :=
  r0 (w64 (a + (w64 (k_ * b_)))) (w64 (a1 + (w64 (k_ * b_1))))

/-- loop.example/g01297/spec.l01Det -/
def spec_l01Det {α : Type} (k : Nat) (a : Int) (a1 : Int) (b_ : Int) (b_1 : Int) (r0 : Int → Option α) : Option α :=
  r0 (w64 ((w64 (a * b_1)) - (w64 (a1 * b_))))

/-- loop.example/g01297/spec.l09Side -/
def spec_l09Side {α : Type} (k : Nat) (a : Int) (a1 : Int) (b_ : Int) (b_1 : Int) (c : Int) (c1 : Int) (r0 : Int → Option α) : Option α :=
  spec_l01Plus k b_ b_1 a a1 (-1) fun v v1 =>
  spec_l01Plus k c c1 b_ b_1 (-1) fun v2 v3 =>
  spec_l01Det k v v1 v2 v3 fun v4 =>
  r0 v4

/-- loop.example/g01297/spec.l09Half -/
def spec_l09Half {α : Type} (k : Nat) (a : Int) (a1 : Int) (r0 : Int → Option α) : Option α :=
  bif decide (0 < a1) then
    r0 0
  else
  bif decide (a1 = 0) then
    bif decide (0 < a) then
      r0 0
    else
      r0 1
  else
    r0 1

def spec_l09Is_l6 {α : Type} : Nat → Int → Int → Int → (List (Int × Int)) → (Int → Int → Int → (List (Int × Int)) → Option α) → (Bool → Option α) → Option α
  | 0, _, _, _, _, _, _ => none
  | k + 1, n_, turns, i, list1, b0, r0 =>
    bif decide (i < n_) then
      bif (decide (0 ≤ i) && decide (i < (((List.length list1) : Nat) : Int))) then
        (list1[i.toNat]?).bind fun e_ =>
        bif decide (n_ = 0) then
          none
        else
        bif (decide (0 ≤ (Int.tmod (w64 (i + 1)) n_)) && decide ((Int.tmod (w64 (i + 1)) n_) < (((List.length list1) : Nat) : Int))) then
          (list1[(Int.tmod (w64 (i + 1)) n_).toNat]?).bind fun e_1 =>
          bif decide (n_ = 0) then
            none
          else
          bif (decide (0 ≤ (Int.tmod (w64 (i + 2)) n_)) && decide ((Int.tmod (w64 (i + 2)) n_) < (((List.length list1) : Nat) : Int))) then
            (list1[(Int.tmod (w64 (i + 2)) n_).toNat]?).bind fun e_2 =>
            spec_l01In k e_.1 (-1000) 1000 fun v =>
            bif (!v) then
              r0 false
            else
              spec_l01In k e_.2 (-1000) 1000 fun v1 =>
              bif (!v1) then
                r0 false
              else
                spec_l01Is k e_1.1 e_1.2 fun v2 =>
                bif (!v2) then
                  r0 false
                else
                  spec_l01Is k e_2.1 e_2.2 fun v3 =>
                  bif (!v3) then
                    r0 false
                  else
                    spec_l09Side k e_.1 e_.2 e_1.1 e_1.2 e_2.1 e_2.2 fun v4 =>
                    bif decide (v4 ≤ 0) then
                      r0 false
                    else
                      spec_l01Plus k e_1.1 e_1.2 e_.1 e_.2 (-1) fun v5 v6 =>
                      spec_l09Half k v5 v6 fun v7 =>
                      bif decide (v7 = 1) then
                        spec_l01Plus k e_2.1 e_2.2 e_1.1 e_1.2 (-1) fun v8 v9 =>
                        spec_l09Half k v8 v9 fun v10 =>
                        bif decide (v10 = 0) then
                          spec_l09Is_l6 k n_ (w64 (turns + 1)) (w64 (i + 1)) list1 b0 r0
                        else
                          spec_l09Is_l6 k n_ turns (w64 (i + 1)) list1 b0 r0
                      else
                        spec_l09Is_l6 k n_ turns (w64 (i + 1)) list1 b0 r0
          else
            none
        else
          none
      else
        none
    else
      b0 n_ turns i list1

/-- loop.example/g01297/spec.l09Is -/
def spec_l09Is {α : Type} (k : Nat) (list : List (Int × Int)) (r0 : Bool → Option α) : Option α :=
  bif decide ((((List.length list) : Nat) : Int) < 3) then
    r0 false
  else
  bif decide (12 < (((List.length list) : Nat) : Int)) then
    r0 false
  else
    spec_l09Is_l6 k (((List.length list) : Nat) : Int) 0 0 list
      (fun _ turns1 _ _ =>
        r0 (decide (turns1 = 1)))
      r0

/-- loop.example/g01297/spec.l01DetOf -/
def spec_l01DetOf {α : Type} (k : Nat) (m : Int) (m1 : Int) (m2 : Int) (m3 : Int) (r0 : Int → Option α) : Option α :=
  r0 (w64 ((w64 (m * m3)) - (w64 (m1 * m2))))

/-- loop.example/g01297/spec.l01Unit -/
def spec_l01Unit {α : Type} (k : Nat) (m : Int) (m1 : Int) (m2 : Int) (m3 : Int) (r0 : Bool → Option α) : Option α :=
  spec_l01DetOf k m m1 m2 m3 fun v =>
  bif decide (v = 1) then
    r0 true
  else
    r0 (decide (v = (-1)))

/-- loop.example/g01297/spec.l01Apply -/
def spec_l01Apply {α : Type} (k : Nat) (m : Int) (m1 : Int) (m2 : Int) (m3 : Int) (a : Int) (a1 : Int) (r0 : Int → Int → Option α) : Option α :=
  r0 (w64 ((w64 (m * a)) + (w64 (m1 * a1)))) (w64 ((w64 (m2 * a)) + (w64 (m3 * a1))))

/-- loop.example/g01297/spec.l09Before -/
def spec_l09Before {α : Type} (k : Nat) (a : Int) (a1 : Int) (b_ : Int) (b_1 : Int) (r0 : Bool → Option α) : Option α :=
  bif decide (a < b_) then
    r0 true
  else
  bif decide (a = b_) then
    r0 (decide (a1 < b_1))
  else
    r0 false

/-- loop.example/g01297/spec.l09Far -/
def spec_l09Far {α : Type} (k : Nat) (a : Int) (a1 : Int) (b_ : Int) (b_1 : Int) (r0 : Int → Option α) : Option α :=
  r0 (w64 ((max (w64 (b_ - a)) (w64 (0 - (w64 (b_ - a))))) + (max (w64 (b_1 - a1)) (w64 (0 - (w64 (b_1 - a1)))))))

def spec_l09Hull_l5 {α : Type} : Nat → Int → (List (Int × Int)) → Int → Int → (Int → (List (Int × Int)) → Int → Int → Option α) → ((List (Int × Int)) → Option α) → Option α
  | 0, _, _, _, _, _, _ => none
  | k + 1, i, list1, first, first1, b0, r0 =>
    bif decide (i < (((List.length list1) : Nat) : Int)) then
      bif (decide (0 ≤ i) && decide (i < (((List.length list1) : Nat) : Int))) then
        (list1[i.toNat]?).bind fun e_1 =>
        spec_l09Before k e_1.1 e_1.2 first first1 fun v =>
        bif v then
          bif (decide (0 ≤ i) && decide (i < (((List.length list1) : Nat) : Int))) then
            (list1[i.toNat]?).bind fun e_2 =>
            spec_l09Hull_l5 k (w64 (i + 1)) list1 e_2.1 e_2.2 b0 r0
          else
            none
        else
          spec_l09Hull_l5 k (w64 (i + 1)) list1 first first1 b0 r0
      else
        none
    else
      b0 i list1 first first1

def spec_l09Hull_l13 {α : Type} : Nat → Bool → Int → (List (Int × Int)) → Int → Int → (List (Int × Int)) → Int → Int → Int → Int → (Bool → Int → (List (Int × Int)) → Int → Int → (List (Int × Int)) → Int → Int → Int → Int → Option α) → ((List (Int × Int)) → Option α) → Option α
  | 0, _, _, _, _, _, _, _, _, _, _, _, _ => none
  | k + 1, found, i2, list4, first6, first7, out1, now, now1, next, next1, b4, r0 =>
    bif decide (i2 < (((List.length list4) : Nat) : Int)) then
      bif (decide (0 ≤ i2) && decide (i2 < (((List.length list4) : Nat) : Int))) then
        (list4[i2.toNat]?).bind fun e_4 =>
        bif (decide (e_4.1 = now) && decide (e_4.2 = now1)) then
          spec_l09Hull_l13 k found (w64 (i2 + 1)) list4 first6 first7 out1 now now1 next next1 b4 r0
        else
        bif (!found) then
          bif (decide (0 ≤ i2) && decide (i2 < (((List.length list4) : Nat) : Int))) then
            (list4[i2.toNat]?).bind fun e_5 =>
            spec_l09Hull_l13 k true (w64 (i2 + 1)) list4 first6 first7 out1 now now1 e_5.1 e_5.2 b4 r0
          else
            none
        else
        bif (decide (0 ≤ i2) && decide (i2 < (((List.length list4) : Nat) : Int))) then
          (list4[i2.toNat]?).bind fun e_6 =>
          spec_l01Plus k next next1 now now1 (-1) fun v1 v2 =>
          spec_l01Plus k e_6.1 e_6.2 now now1 (-1) fun v3 v4 =>
          spec_l01Det k v1 v2 v3 v4 fun v5 =>
          bif decide (v5 < 0) then
            bif (decide (0 ≤ i2) && decide (i2 < (((List.length list4) : Nat) : Int))) then
              (list4[i2.toNat]?).bind fun e_7 =>
              spec_l09Hull_l13 k found (w64 (i2 + 1)) list4 first6 first7 out1 now now1 e_7.1 e_7.2 b4 r0
            else
              none
          else
          bif decide (v5 = 0) then
            bif (decide (0 ≤ i2) && decide (i2 < (((List.length list4) : Nat) : Int))) then
              (list4[i2.toNat]?).bind fun e_8 =>
              spec_l09Far k now now1 e_8.1 e_8.2 fun v6 =>
              spec_l09Far k now now1 next next1 fun v7 =>
              bif decide (v7 < v6) then
                bif (decide (0 ≤ i2) && decide (i2 < (((List.length list4) : Nat) : Int))) then
                  (list4[i2.toNat]?).bind fun e_9 =>
                  spec_l09Hull_l13 k found (w64 (i2 + 1)) list4 first6 first7 out1 now now1 e_9.1 e_9.2 b4 r0
                else
                  none
              else
                spec_l09Hull_l13 k found (w64 (i2 + 1)) list4 first6 first7 out1 now now1 next next1 b4 r0
            else
              none
          else
            spec_l09Hull_l13 k found (w64 (i2 + 1)) list4 first6 first7 out1 now now1 next next1 b4 r0
        else
          none
      else
        none
    else
      b4 found i2 list4 first6 first7 out1 now now1 next next1

def spec_l09Hull_l10 {α : Type} : Nat → (List (Int × Int)) → Int → Int → (List (Int × Int)) → ((List (Int × Int)) → Option α) → Option α
  | 0, _, _, _, _, _ => none
  | k + 1, list3, first4, first5, out, r0 =>
    bif (decide (0 ≤ (w64 ((((List.length out) : Nat) : Int) - 1))) && decide ((w64 ((((List.length out) : Nat) : Int) - 1)) < (((List.length out) : Nat) : Int))) then
      (out[(w64 ((((List.length out) : Nat) : Int) - 1)).toNat]?).bind fun e_3 =>
      spec_l09Hull_l13 k false 0 list3 first4 first5 out e_3.1 e_3.2 0 0
        (fun found1 _ list5 first8 first9 out2 _ _ next2 next3 =>
          bif (!found1) then
            r0 out2
          else
          bif (decide (next2 = first8) && decide (next3 = first9)) then
            r0 out2
          else
          bif decide (((List.length out2) + 1) ≤ big) then
            bif decide ((((List.length list5) : Nat) : Int) < (((List.length (out2 ++ [(next2, next3)])) : Nat) : Int)) then
              r0 (out2 ++ [(next2, next3)])
            else
              spec_l09Hull_l10 k list5 first8 first9 (out2 ++ [(next2, next3)]) r0
          else
            none)
        r0
    else
      none

/-- loop.example/g01297/spec.l09Hull -/
def spec_l09Hull {α : Type} (k : Nat) (list : List (Int × Int)) (r0 : (List (Int × Int)) → Option α) : Option α :=
  bif decide ((((List.length list) : Nat) : Int) = 0) then
    r0 []
  else
  bif (true && decide (0 < (((List.length list) : Nat) : Int))) then
    (list[0]?).bind fun e_ =>
    spec_l09Hull_l5 k 0 list e_.1 e_.2
      (fun _ list2 first2 first3 =>
        spec_l09Hull_l10 k list2 first2 first3 [(first2, first3)]
          r0)
      r0
  else
    none

def spec_MapPolygon_l7 {α : Type} : Nat → Int → (List (Int × Int)) → Int → Int → Int → Int → Int → Int → (List (Int × Int)) → (Int → (List (Int × Int)) → Int → Int → Int → Int → Int → Int → (List (Int × Int)) → Option α) → (Int → Option α) → ((List (Int × Int)) → Int → Option α) → Option α
  | 0, _, _, _, _, _, _, _, _, _, _, _, _ => none
  | k + 1, i, list1, m4, m5, m6, m7, b_2, b_3, all, b1, r0, r1 =>
    bif decide (i < (((List.length list1) : Nat) : Int)) then
      bif (decide (0 ≤ i) && decide (i < (((List.length list1) : Nat) : Int))) then
        (list1[i.toNat]?).bind fun e_ =>
        spec_l01Apply k m4 m5 m6 m7 e_.1 e_.2 fun v4 v5 =>
        spec_l01Plus k v4 v5 b_2 b_3 1 fun v6 v7 =>
        spec_l01In k v6 (-1000) 1000 fun v8 =>
        bif (!v8) then
          r0 3
        else
          spec_l01In k v7 (-1000) 1000 fun v9 =>
          bif (!v9) then
            r0 3
          else
          bif decide (((List.length all) + 1) ≤ big) then
            spec_MapPolygon_l7 k (w64 (i + 1)) list1 m4 m5 m6 m7 b_2 b_3 (all ++ [(v6, v7)]) b1 r0 r1
          else
            none
      else
        none
    else
      b1 i list1 m4 m5 m6 m7 b_2 b_3 all

/-- loop.example/g01297/spec.MapPolygon -/
def spec_MapPolygon {α : Type} (k : Nat) (m : Int) (m1 : Int) (m2 : Int) (m3 : Int) (list : List (Int × Int)) (b_ : Int) (b_1 : Int) (r0 : Int → Option α) (r1 : (List (Int × Int)) → Int → Option α) : Option α :=
  spec_l01Matrix k m m1 m2 m3 fun v =>
  bif (!v) then
    r0 1
  else
    spec_l09Is k list fun v1 =>
    bif (!v1) then
      r0 1
    else
      spec_l01Is k b_ b_1 fun v2 =>
      bif (!v2) then
        r0 1
      else
        spec_l01Unit k m m1 m2 m3 fun v3 =>
        bif (!v3) then
          r0 5
        else
          spec_MapPolygon_l7 k 0 list m m1 m2 m3 b_ b_1 []
            (fun _ _ _ _ _ _ _ _ all1 =>
              spec_l09Hull k all1 fun v10 =>
              r1 v10 0)
            r0 r1

/-- loop.example/g01297/impl.in -/
def impl_in {α : Type} (k : Nat) (n_ : Int) (low : Int) (high : Int) (r0 : Bool → Option α) : Option α :=
  bif decide (low ≤ n_) then
    r0 (decide (n_ ≤ high))
  else
    r0 false

/-- loop.example/g01297/impl.isCoord -/
def impl_isCoord {α : Type} (k : Nat) (n_ : Int) (r0 : Bool → Option α) : Option α :=
  impl_in k n_ (-1000000) 1000000 fun v =>
  r0 v

/-- loop.example/g01297/impl.IsPoint -/
def impl_IsPoint {α : Type} (k : Nat) (a : Int) (a1 : Int) (r0 : Bool → Option α) : Option α :=
  impl_isCoord k a fun v =>
  bif v then
    impl_isCoord k a1 fun v1 =>
    r0 v1
  else
    r0 false

/-- loop.example/g01297/impl.points$1 -/
def impl_points_1 {α : Type} (k : Nat) (a : Int) (a1 : Int) (r0 : Bool → Option α) : Option α :=
  impl_IsPoint k a a1 fun v =>
  r0 (!v)

def slices_IndexFunc_impl_Point_impl_Point_1F_impl_points_1_l2 {α : Type} : Nat → Int → Int → (List (Int × Int)) → (Int → Int → (List (Int × Int)) → Option α) → (Int → Option α) → Option α
  | 0, _, _, _, _, _ => none
  | k + 1, x, x1, s1, b0, r0 =>
    bif decide (x1 < x) then
      bif (decide (0 ≤ x1) && decide (x1 < (((List.length s1) : Nat) : Int))) then
        (s1[x1.toNat]?).bind fun e_ =>
        impl_points_1 k e_.1 e_.2 fun v =>
        bif v then
          r0 x1
        else
          slices_IndexFunc_impl_Point_impl_Point_1F_impl_points_1_l2 k x (w64 (x1 + 1)) s1 b0 r0
      else
        none
    else
      b0 x x1 s1

/-- slices.IndexFunc[[]loop.example/g01297/impl.Point,loop.example/g01297/impl.Point] -/
def slices_IndexFunc_impl_Point_impl_Point_1F_impl_points_1 {α : Type} (k : Nat) (s : List (Int × Int)) (r0 : Int → Option α) : Option α :=
  slices_IndexFunc_impl_Point_impl_Point_1F_impl_points_1_l2 k (((List.length s) : Nat) : Int) 0 s
    (fun _ _ _ =>
      r0 (-1))
    r0

/-- slices.ContainsFunc[[]loop.example/g01297/impl.Point,loop.example/g01297/impl.Point] -/
def slices_ContainsFunc_impl_Point_impl_Point_1F_impl_points_1 {α : Type} (k : Nat) (s : List (Int × Int)) (r0 : Bool → Option α) : Option α :=
  slices_IndexFunc_impl_Point_impl_Point_1F_impl_points_1 k s fun v =>
  r0 (decide (0 ≤ v))

/-- loop.example/g01297/impl.points -/
def impl_points {α : Type} (k : Nat) (list : List (Int × Int)) (r0 : Bool → Option α) : Option α :=
  slices_ContainsFunc_impl_Point_impl_Point_1F_impl_points_1 k list fun v =>
  r0 (!v)

/-- loop.example/g01297/impl.IsMatrix -/
def impl_IsMatrix {α : Type} (k : Nat) (m : Int) (m1 : Int) (m2 : Int) (m3 : Int) (r0 : Bool → Option α) : Option α :=
  impl_points k [(m, m1), (m2, m3)] fun v =>
  r0 v

/-- loop.example/g01297/impl.small -/
def impl_small {α : Type} (k : Nat) (a : Int) (a1 : Int) (r0 : Bool → Option α) : Option α :=
  impl_in k a (-1000) 1000 fun v =>
  bif v then
    impl_in k a1 (-1000) 1000 fun v1 =>
    r0 v1
  else
    r0 false

/-- loop.example/g01297/impl.IsPolygon$1 -/
def impl_IsPolygon_1 {α : Type} (k : Nat) (a : Int) (a1 : Int) (r0 : Bool → Option α) : Option α :=
  impl_small k a a1 fun v =>
  r0 (!v)

def slices_IndexFunc_impl_Point_impl_Point_1F_impl_IsPolygon_1_l2 {α : Type} : Nat → Int → Int → (List (Int × Int)) → (Int → Int → (List (Int × Int)) → Option α) → (Int → Option α) → Option α
  | 0, _, _, _, _, _ => none
  | k + 1, x, x1, s1, b0, r0 =>
    bif decide (x1 < x) then
      bif (decide (0 ≤ x1) && decide (x1 < (((List.length s1) : Nat) : Int))) then
        (s1[x1.toNat]?).bind fun e_ =>
        impl_IsPolygon_1 k e_.1 e_.2 fun v =>
        bif v then
          r0 x1
        else
          slices_IndexFunc_impl_Point_impl_Point_1F_impl_IsPolygon_1_l2 k x (w64 (x1 + 1)) s1 b0 r0
      else
        none
    else
      b0 x x1 s1

/-- slices.IndexFunc[[]loop.example/g01297/impl.Point,loop.example/g01297/impl.Point] -/
def slices_IndexFunc_impl_Point_impl_Point_1F_impl_IsPolygon_1 {α : Type} (k : Nat) (s : List (Int × Int)) (r0 : Int → Option α) : Option α :=
  slices_IndexFunc_impl_Point_impl_Point_1F_impl_IsPolygon_1_l2 k (((List.length s) : Nat) : Int) 0 s
    (fun _ _ _ =>
      r0 (-1))
    r0

/-- slices.ContainsFunc[[]loop.example/g01297/impl.Point,loop.example/g01297/impl.Point] -/
def slices_ContainsFunc_impl_Point_impl_Point_1F_impl_IsPolygon_1 {α : Type} (k : Nat) (s : List (Int × Int)) (r0 : Bool → Option α) : Option α :=
  slices_IndexFunc_impl_Point_impl_Point_1F_impl_IsPolygon_1 k s fun v =>
  r0 (decide (0 ≤ v))

/-- (loop.example/g01297/impl.polygon).next -/
def impl_polygon_next {α : Type} (k : Nat) (p_ : List (Int × Int)) (i : Int) (r0 : Int → Int → Option α) : Option α :=
  bif decide ((((List.length p_) : Nat) : Int) = 0) then
    none
  else
  bif (decide (0 ≤ (Int.tmod (w64 (i + 1)) (((List.length p_) : Nat) : Int))) && decide ((Int.tmod (w64 (i + 1)) (((List.length p_) : Nat) : Int)) < (((List.length p_) : Nat) : Int))) then
    (p_[(Int.tmod (w64 (i + 1)) (((List.length p_) : Nat) : Int)).toNat]?).bind fun e_ =>
    r0 e_.1 e_.2
  else
    none

/-- (loop.example/g01297/impl.Point).plus -/
def impl_Point_plus {α : Type} (k : Nat) (a : Int) (a1 : Int) (b_ : Int) (b_1 : Int) (k_ : Int) (r0 : Int → Int → Option α) : Option α :=
  r0 (w64 (a + (w64 (k_ * b_)))) (w64 (a1 + (w64 (k_ * b_1))))

/-- (loop.example/g01297/impl.Point).less -/
def impl_Point_less {α : Type} (k : Nat) (a : Int) (a1 : Int) (b_ : Int) (b_1 : Int) (r0 : Int → Int → Option α) : Option α :=
  impl_Point_plus k a a1 b_ b_1 (-1) fun v v1 =>
  r0 v v1

/-- loop.example/g01297/impl.det -/
def impl_det {α : Type} (k : Nat) (a : Int) (a1 : Int) (b_ : Int) (b_1 : Int) (r0 : Int → Option α) : Option α :=
  r0 (w64 ((w64 (a * b_1)) - (w64 (a1 * b_))))

/-- loop.example/g01297/impl.turn -/
def impl_turn {α : Type} (k : Nat) (a : Int) (a1 : Int) (b_ : Int) (b_1 : Int) (c : Int) (c1 : Int) (r0 : Int → Option α) : Option α :=
  impl_Point_less k b_ b_1 a a1 fun v v1 =>
  impl_Point_less k c c1 b_ b_1 fun v2 v3 =>
  impl_det k v v1 v2 v3 fun v4 =>
  r0 v4

def impl_polygon_convex_l6 {α : Type} : Nat → Int → Int → Int → Int → Int → (List (Int × Int)) → Int → Int → Int → Int → (Int → Int → Int → Int → Int → (List (Int × Int)) → Int → Int → Int → Int → Option α) → (Bool → Option α) → Option α
  | 0, _, _, _, _, _, _, _, _, _, _, _, _ => none
  | k + 1, i, x2, x3, x4, x5, p_2, a, a1, b_, b_1, b2, r0 =>
    bif decide (x5 < x4) then
      bif (decide (0 ≤ x5) && decide (x5 < (((List.length p_2) : Nat) : Int))) then
        (p_2[x5.toNat]?).bind fun e_1 =>
        bif (!decide (x5 = i)) then
          bif decide ((((List.length p_2) : Nat) : Int) = 0) then
            none
          else
          bif (!decide (x5 = (Int.tmod (w64 (i + 1)) (((List.length p_2) : Nat) : Int)))) then
            impl_turn k a a1 b_ b_1 e_1.1 e_1.2 fun v2 =>
            bif decide (v2 ≤ 0) then
              r0 false
            else
              impl_polygon_convex_l6 k i x2 x3 x4 (w64 (x5 + 1)) p_2 a a1 b_ b_1 b2 r0
          else
            impl_polygon_convex_l6 k i x2 x3 x4 (w64 (x5 + 1)) p_2 a a1 b_ b_1 b2 r0
        else
          impl_polygon_convex_l6 k i x2 x3 x4 (w64 (x5 + 1)) p_2 a a1 b_ b_1 b2 r0
      else
        none
    else
      b2 i x2 x3 x4 x5 p_2 a a1 b_ b_1

def impl_polygon_convex_l2 {α : Type} : Nat → Int → Int → (List (Int × Int)) → (Int → Int → (List (Int × Int)) → Option α) → (Bool → Option α) → Option α
  | 0, _, _, _, _, _ => none
  | k + 1, x, x1, p_1, b0, r0 =>
    bif decide (x1 < x) then
      bif (decide (0 ≤ x1) && decide (x1 < (((List.length p_1) : Nat) : Int))) then
        (p_1[x1.toNat]?).bind fun e_ =>
        impl_polygon_next k p_1 x1 fun v v1 =>
        impl_polygon_convex_l6 k x1 x x1 (((List.length p_1) : Nat) : Int) 0 p_1 e_.1 e_.2 v v1
          (fun _ x6 x7 _ _ p_3 _ _ _ _ =>
            impl_polygon_convex_l2 k x6 (w64 (x7 + 1)) p_3 b0 r0)
          r0
      else
        none
    else
      b0 x x1 p_1

/-- (loop.example/g01297/impl.polygon).convex -/
def impl_polygon_convex {α : Type} (k : Nat) (p_ : List (Int × Int)) (r0 : Bool → Option α) : Option α :=
  impl_polygon_convex_l2 k (((List.length p_) : Nat) : Int) 0 p_
    (fun _ _ _ =>
      r0 true)
    r0

/-- loop.example/g01297/impl.IsPolygon -/
def impl_IsPolygon {α : Type} (k : Nat) (list : List (Int × Int)) (r0 : Bool → Option α) : Option α :=
  impl_in k (((List.length list) : Nat) : Int) 3 12 fun v =>
  bif (!v) then
    r0 false
  else
    slices_ContainsFunc_impl_Point_impl_Point_1F_impl_IsPolygon_1 k list fun v1 =>
    bif v1 then
      r0 false
    else
      impl_polygon_convex k list fun v2 =>
      r0 v2

/-- (loop.example/g01297/impl.Matrix).det -/
def impl_Matrix_det {α : Type} (k : Nat) (m : Int) (m1 : Int) (m2 : Int) (m3 : Int) (r0 : Int → Option α) : Option α :=
  impl_det k m m1 m2 m3 fun v =>
  r0 v

/-- loop.example/g01297/impl.size -/
def impl_size {α : Type} (k : Nat) (n_ : Int) (r0 : Int → Option α) : Option α :=
  r0 (max n_ (w64 (0 - n_)))

/-- (loop.example/g01297/impl.Matrix).unimodular -/
def impl_Matrix_unimodular {α : Type} (k : Nat) (m : Int) (m1 : Int) (m2 : Int) (m3 : Int) (r0 : Bool → Option α) : Option α :=
  impl_Matrix_det k m m1 m2 m3 fun v =>
  impl_size k v fun v1 =>
  r0 (decide (v1 = 1))

/-- (loop.example/g01297/impl.Matrix).apply -/
def impl_Matrix_apply {α : Type} (k : Nat) (m : Int) (m1 : Int) (m2 : Int) (m3 : Int) (a : Int) (a1 : Int) (r0 : Int → Int → Option α) : Option α :=
  r0 (w64 ((w64 (m * a)) + (w64 (m1 * a1)))) (w64 ((w64 (m2 * a)) + (w64 (m3 * a1))))

/-- loop.example/g01297/impl.MapPolygon$1 -/
def impl_MapPolygon_1 {α : Type} (k : Nat) (a : Int) (a1 : Int) (r0 : Bool → Option α) : Option α :=
  impl_small k a a1 fun v =>
  r0 (!v)

def slices_IndexFunc_impl_Point_impl_Point_1F_impl_MapPolygon_1_l2 {α : Type} : Nat → Int → Int → (List (Int × Int)) → (Int → Int → (List (Int × Int)) → Option α) → (Int → Option α) → Option α
  | 0, _, _, _, _, _ => none
  | k + 1, x, x1, s1, b0, r0 =>
    bif decide (x1 < x) then
      bif (decide (0 ≤ x1) && decide (x1 < (((List.length s1) : Nat) : Int))) then
        (s1[x1.toNat]?).bind fun e_ =>
        impl_MapPolygon_1 k e_.1 e_.2 fun v =>
        bif v then
          r0 x1
        else
          slices_IndexFunc_impl_Point_impl_Point_1F_impl_MapPolygon_1_l2 k x (w64 (x1 + 1)) s1 b0 r0
      else
        none
    else
      b0 x x1 s1

/-- slices.IndexFunc[[]loop.example/g01297/impl.Point,loop.example/g01297/impl.Point] -/
def slices_IndexFunc_impl_Point_impl_Point_1F_impl_MapPolygon_1 {α : Type} (k : Nat) (s : List (Int × Int)) (r0 : Int → Option α) : Option α :=
  slices_IndexFunc_impl_Point_impl_Point_1F_impl_MapPolygon_1_l2 k (((List.length s) : Nat) : Int) 0 s
    (fun _ _ _ =>
      r0 (-1))
    r0

/-- slices.ContainsFunc[[]loop.example/g01297/impl.Point,loop.example/g01297/impl.Point] -/
def slices_ContainsFunc_impl_Point_impl_Point_1F_impl_MapPolygon_1 {α : Type} (k : Nat) (s : List (Int × Int)) (r0 : Bool → Option α) : Option α :=
  slices_IndexFunc_impl_Point_impl_Point_1F_impl_MapPolygon_1 k s fun v =>
  r0 (decide (0 ≤ v))

/-- slices.Clone[[]loop.example/g01297/impl.Point,loop.example/g01297/impl.Point] -/
noncomputable def slices_Clone_impl_Point_impl_Point {α : Type} (k : Nat) (s : List (Int × Int)) (r0 : Option α) (r1 : (List (Int × Int)) → Option α) : Option α :=
  bif Nat.beq (List.length s) 0 then
    both
      (
        r0)
      (
        bif decide ((0 + (List.length s)) ≤ big) then
          r1 ([] ++ s)
        else
          none)
  else
  bif decide ((0 + (List.length s)) ≤ big) then
    r1 ([] ++ s)
  else
    none

/-- cmp.isNaN[int64] -/
def cmp_isNaN_int64 {α : Type} (k : Nat) (x : Int) (r0 : Bool → Option α) : Option α :=
  r0 (!decide (x = x))

/-- cmp.Compare[int64] -/
def cmp_Compare_int64 {α : Type} (k : Nat) (x : Int) (y : Int) (r0 : Int → Option α) : Option α :=
  cmp_isNaN_int64 k x fun v =>
  cmp_isNaN_int64 k y fun v1 =>
  bif v then
    bif v1 then
      r0 0
    else
      r0 (-1)
  else
  bif v1 then
    r0 1
  else
  bif decide (x < y) then
    r0 (-1)
  else
  bif decide (y < x) then
    r0 1
  else
    r0 0

def cmp_Or_int_l3 {α : Type} : Nat → Int → Int → Int → List Int → (Int → Int → Int → List Int → Option α) → (Int → Option α) → Option α
  | 0, _, _, _, _, _, _ => none
  | k + 1, zero, x, x1, x2, b0, r0 =>
    bif decide (x1 < x) then
      bif (decide (0 ≤ x1) && decide (x1 < (((List.length x2) : Nat) : Int))) then
        (x2[x1.toNat]?).bind fun e_ =>
        bif (!decide (e_ = zero)) then
          r0 e_
        else
          cmp_Or_int_l3 k zero x (w64 (x1 + 1)) x2 b0 r0
      else
        none
    else
      b0 zero x x1 x2

/-- cmp.Or[int] -/
def cmp_Or_int {α : Type} (k : Nat) (vals : List Int) (r0 : Int → Option α) : Option α :=
  cmp_Or_int_l3 k 0 (((List.length vals) : Nat) : Int) 0 vals
    (fun zero1 _ _ _ =>
      r0 zero1)
    r0

/-- loop.example/g01297/impl.pointOrder -/
def impl_pointOrder {α : Type} (k : Nat) (a : Int) (a1 : Int) (b_ : Int) (b_1 : Int) (r0 : Int → Option α) : Option α :=
  cmp_Compare_int64 k a b_ fun v =>
  cmp_Compare_int64 k a1 b_1 fun v1 =>
  cmp_Or_int k [v, v1] fun v2 =>
  r0 v2

/-- slices.SortFunc[[]loop.example/g01297/impl.Point,loop.example/g01297/impl.Point]: as the shelf has it -/
def slices_SortFunc_impl_Point_impl_Point_0N_1F_impl_pointOrder {α : Type} (_ : Nat) (r0 : Option α) : Option α := r0

/-- slices.Compact[[]loop.example/g01297/impl.Point,loop.example/g01297/impl.Point] -/
def slices_Compact_impl_Point_impl_Point_0N {α : Type} (k : Nat)  (r0 : Option α) : Option α :=
  r0

/-- loop.example/g01297/impl.chain -/
def impl_chain_0N {α : Type} (k : Nat)  (r0 : (List (Int × Int)) → Option α) : Option α :=
  r0 []

/-- slices.Reverse[[]loop.example/g01297/impl.Point,loop.example/g01297/impl.Point] -/
def slices_Reverse_impl_Point_impl_Point_0N {α : Type} (k : Nat)  (r0 : Option α) : Option α :=
  r0

/-- slices.Grow[[]loop.example/g01297/impl.Point,loop.example/g01297/impl.Point] -/
def slices_Grow_impl_Point_impl_Point_0N {α : Type} (k : Nat) (n_ : Int) (r0 : (List (Int × Int)) → Option α) (r1 : Option α) : Option α :=
  bif decide (n_ < 0) then
    none
  else
  bif decide (0 < (w64 (n_ - 0))) then
    bif (decide (1 ≤ (w64 (n_ - 0))) && decide ((w64 (n_ - 0)) ≤ (big : Int))) then
      bif (true && decide (0 ≤ (((List.length (List.replicate ((w64 (n_ - 0)).toNat) (0, 0))) : Nat) : Int))) then
        r0 (List.take 0 (List.replicate ((w64 (n_ - 0)).toNat) (0, 0)))
      else
        none
    else
      none
  else
    r1

/-- slices.Concat[[]loop.example/g01297/impl.Point,loop.example/g01297/impl.Point] -/
def slices_Concat_impl_Point_impl_Point_0M2 {α : Type} (k : Nat) (slices : List (Int × Int)) (slices1 : List (Int × Int)) (r0 : (List (Int × Int)) → Option α) : Option α :=
  bif decide ((w64 (0 + (((List.length slices) : Nat) : Int))) < 0) then
    none
  else
  bif decide ((w64 ((w64 (0 + (((List.length slices) : Nat) : Int))) + (((List.length slices1) : Nat) : Int))) < 0) then
    none
  else
    slices_Grow_impl_Point_impl_Point_0N k (w64 ((w64 (0 + (((List.length slices) : Nat) : Int))) + (((List.length slices1) : Nat) : Int)))
      (fun v =>
        bif decide (((List.length v) + (List.length slices)) ≤ big) then
          bif decide (((List.length (v ++ slices)) + (List.length slices1)) ≤ big) then
            r0 ((v ++ slices) ++ slices1)
          else
            none
        else
          none)
      (
        bif decide ((List.length slices) ≤ big) then
          bif decide (((List.length slices) + (List.length slices1)) ≤ big) then
            r0 (slices ++ slices1)
          else
            none
        else
          none)

/-- slices.SortFunc[[]loop.example/g01297/impl.Point,loop.example/g01297/impl.Point]: as the shelf has it -/
noncomputable def slices_SortFunc_impl_Point_impl_Point_1F_impl_pointOrder {α : Type} (k : Nat) (x : List (Int × Int)) (r0 : (List (Int × Int)) → Option α) : Option α := sortK (fun (p q : Int × Int) => impl_pointOrder k p.1 p.2 q.1 q.2) x r0

def slices_Compact_impl_Point_impl_Point_l9 {α : Type} : Nat → Int → Nat → Nat → Int → (List (Int × Int)) → (Int → Nat → Nat → Int → (List (Int × Int)) → Option α) → ((List (Int × Int)) → Option α) → Option α
  | 0, _, _, _, _, _, _, _ => none
  | k + 1, k_1, s2_, s2_1, k2_, s2, b2, r0 =>
    bif decide (k2_ < ((s2_1 : Nat) : Int)) then
      bif (decide (0 ≤ k2_) && decide (k2_ < ((s2_1 : Nat) : Int))) then
        (s2[(moved s2_ k2_.toNat 1)]?).bind fun e_2 =>
        bif (decide (0 ≤ (w64 (k2_ - 1))) && decide ((w64 (k2_ - 1)) < ((s2_1 : Nat) : Int))) then
          (s2[(moved s2_ ((w64 (k2_ - 1)).toNat) 1)]?).bind fun e_3 =>
          bif (!(decide (e_2.1 = e_3.1) && decide (e_2.2 = e_3.2))) then
            bif (decide (0 ≤ k2_) && decide (k2_ < ((s2_1 : Nat) : Int))) then
              (s2[(moved s2_ k2_.toNat 1)]?).bind fun e_4 =>
              bif (decide (0 ≤ k_1) && decide (k_1 < (((List.length s2) : Nat) : Int))) then
                (s2[k_1.toNat]?).bind fun _ =>
                slices_Compact_impl_Point_impl_Point_l9 k (w64 (k_1 + 1)) s2_ s2_1 (w64 (k2_ + 1)) (List.set s2 k_1.toNat (e_4.1, e_4.2)) b2 r0
              else
                none
            else
              none
          else
            slices_Compact_impl_Point_impl_Point_l9 k k_1 s2_ s2_1 (w64 (k2_ + 1)) s2 b2 r0
        else
          none
      else
        none
    else
      b2 k_1 s2_ s2_1 k2_ s2

def slices_Compact_impl_Point_impl_Point_l4 {α : Type} : Nat → Int → (List (Int × Int)) → (Int → (List (Int × Int)) → Option α) → ((List (Int × Int)) → Option α) → Option α
  | 0, _, _, _, _ => none
  | k + 1, k_, s1, b0, r0 =>
    bif decide (k_ < (((List.length s1) : Nat) : Int)) then
      bif (decide (0 ≤ k_) && decide (k_ < (((List.length s1) : Nat) : Int))) then
        (s1[k_.toNat]?).bind fun e_ =>
        bif (decide (0 ≤ (w64 (k_ - 1))) && decide ((w64 (k_ - 1)) < (((List.length s1) : Nat) : Int))) then
          (s1[(w64 (k_ - 1)).toNat]?).bind fun e_1 =>
          bif (decide (e_.1 = e_1.1) && decide (e_.2 = e_1.2)) then
            bif (decide (0 ≤ k_) && decide (k_ ≤ (((List.length s1) : Nat) : Int))) then
              slices_Compact_impl_Point_impl_Point_l9 k k_ k_.toNat ((List.length s1) - k_.toNat) 1 s1
                (fun k_2 _ _ _ s3 =>
                  bif (decide (0 ≤ k_2) && decide (k_2 ≤ (((List.length s3) : Nat) : Int))) then
                    bif (decide (0 ≤ k_2) && decide (k_2 ≤ (((List.length (((List.take k_2.toNat s3) ++ (List.replicate ((List.length s3) - k_2.toNat) (0, 0))) ++ (List.drop (k_2.toNat + ((List.length s3) - k_2.toNat)) s3))) : Nat) : Int))) then
                      r0 (List.take (k_2.toNat - 0) (((List.take k_2.toNat s3) ++ (List.replicate ((List.length s3) - k_2.toNat) (0, 0))) ++ (List.drop (k_2.toNat + ((List.length s3) - k_2.toNat)) s3)))
                    else
                      none
                  else
                    none)
                r0
            else
              none
          else
            slices_Compact_impl_Point_impl_Point_l4 k (w64 (k_ + 1)) s1 b0 r0
        else
          none
      else
        none
    else
      b0 k_ s1

/-- slices.Compact[[]loop.example/g01297/impl.Point,loop.example/g01297/impl.Point] -/
def slices_Compact_impl_Point_impl_Point {α : Type} (k : Nat) (s : List (Int × Int)) (r0 : (List (Int × Int)) → Option α) : Option α :=
  bif decide ((((List.length s) : Nat) : Int) < 2) then
    r0 s
  else
    slices_Compact_impl_Point_impl_Point_l4 k 1 s
      (fun _ s4 =>
        r0 s4)
      r0

def impl_chain_l5 {α : Type} : Nat → Int → Int → (List (Int × Int)) → Int → Int → (List (Int × Int)) → (Int → Int → (List (Int × Int)) → Int → Int → (List (Int × Int)) → Option α) → ((List (Int × Int)) → Option α) → Option α
  | 0, _, _, _, _, _, _, _, _ => none
  | k + 1, x3, x4, out1, c, c1, x5, b2, r0 =>
    bif decide (1 < (((List.length out1) : Nat) : Int)) then
      bif (decide (0 ≤ (w64 ((((List.length out1) : Nat) : Int) - 2))) && decide ((w64 ((((List.length out1) : Nat) : Int) - 2)) < (((List.length out1) : Nat) : Int))) then
        (out1[(w64 ((((List.length out1) : Nat) : Int) - 2)).toNat]?).bind fun e_1 =>
        bif (decide (0 ≤ (w64 ((((List.length out1) : Nat) : Int) - 1))) && decide ((w64 ((((List.length out1) : Nat) : Int) - 1)) < (((List.length out1) : Nat) : Int))) then
          (out1[(w64 ((((List.length out1) : Nat) : Int) - 1)).toNat]?).bind fun e_2 =>
          impl_turn k e_1.1 e_1.2 e_2.1 e_2.2 c c1 fun v =>
          bif decide (v ≤ 0) then
            bif (decide (0 ≤ (w64 ((((List.length out1) : Nat) : Int) - 1))) && decide ((w64 ((((List.length out1) : Nat) : Int) - 1)) ≤ (((List.length out1) : Nat) : Int))) then
              impl_chain_l5 k x3 x4 (List.take ((w64 ((((List.length out1) : Nat) : Int) - 1)).toNat - 0) out1) c c1 x5 b2 r0
            else
              none
          else
            b2 x3 x4 out1 c c1 x5
        else
          none
      else
        none
    else
      b2 x3 x4 out1 c c1 x5

def impl_chain_l3 {α : Type} : Nat → Int → Int → (List (Int × Int)) → (List (Int × Int)) → (Int → Int → (List (Int × Int)) → (List (Int × Int)) → Option α) → ((List (Int × Int)) → Option α) → Option α
  | 0, _, _, _, _, _, _ => none
  | k + 1, x, x1, out, x2, b0, r0 =>
    bif decide (x1 < x) then
      bif (decide (0 ≤ x1) && decide (x1 < (((List.length x2) : Nat) : Int))) then
        (x2[x1.toNat]?).bind fun e_ =>
        impl_chain_l5 k x x1 out e_.1 e_.2 x2
          (fun x6 x7 out2 c2 c3 x8 =>
            bif decide (((List.length out2) + 1) ≤ big) then
              impl_chain_l3 k x6 (w64 (x7 + 1)) (out2 ++ [(c2, c3)]) x8 b0 r0
            else
              none)
          r0
      else
        none
    else
      b0 x x1 out x2

/-- loop.example/g01297/impl.chain -/
def impl_chain {α : Type} (k : Nat) (list : List (Int × Int)) (r0 : (List (Int × Int)) → Option α) : Option α :=
  impl_chain_l3 k (((List.length list) : Nat) : Int) 0 [] list
    (fun _ _ out3 _ =>
      bif (decide (0 ≤ (max (w64 ((((List.length out3) : Nat) : Int) - 1)) 0)) && decide ((max (w64 ((((List.length out3) : Nat) : Int) - 1)) 0) ≤ (((List.length out3) : Nat) : Int))) then
        r0 (List.take ((max (w64 ((((List.length out3) : Nat) : Int) - 1)) 0).toNat - 0) out3)
      else
        none)
    r0

def slices_Reverse_impl_Point_impl_Point_l1 {α : Type} : Nat → Int → Int → (List (Int × Int)) → (Int → Int → (List (Int × Int)) → Option α) → ((List (Int × Int)) → Option α) → Option α
  | 0, _, _, _, _, _ => none
  | k + 1, i, j, s1, b0, r0 =>
    bif decide (i < j) then
      bif (decide (0 ≤ j) && decide (j < (((List.length s1) : Nat) : Int))) then
        (s1[j.toNat]?).bind fun e_ =>
        bif (decide (0 ≤ i) && decide (i < (((List.length s1) : Nat) : Int))) then
          (s1[i.toNat]?).bind fun e_1 =>
          bif (decide (0 ≤ i) && decide (i < (((List.length s1) : Nat) : Int))) then
            (s1[i.toNat]?).bind fun _ =>
            bif (decide (0 ≤ j) && decide (j < (((List.length (List.set s1 i.toNat (e_.1, e_.2))) : Nat) : Int))) then
              ((List.set s1 i.toNat (e_.1, e_.2))[j.toNat]?).bind fun _ =>
              slices_Reverse_impl_Point_impl_Point_l1 k (w64 (i + 1)) (w64 (j - 1)) (List.set (List.set s1 i.toNat (e_.1, e_.2)) j.toNat (e_1.1, e_1.2)) b0 r0
            else
              none
          else
            none
        else
          none
      else
        none
    else
      b0 i j s1

/-- slices.Reverse[[]loop.example/g01297/impl.Point,loop.example/g01297/impl.Point] -/
def slices_Reverse_impl_Point_impl_Point {α : Type} (k : Nat) (s : List (Int × Int)) (r0 : (List (Int × Int)) → Option α) : Option α :=
  slices_Reverse_impl_Point_impl_Point_l1 k 0 (w64 ((((List.length s) : Nat) : Int) - 1)) s
    (fun _ _ s2 =>
      r0 s2)
    r0

/-- loop.example/g01297/impl.hull -/
noncomputable def impl_hull {α : Type} (k : Nat) (list : List (Int × Int)) (r0 : Int → Option α) (r1 : (List (Int × Int)) → Int → Option α) : Option α :=
  slices_Clone_impl_Point_impl_Point k list
    (
      slices_SortFunc_impl_Point_impl_Point_0N_1F_impl_pointOrder k <|
      slices_Compact_impl_Point_impl_Point_0N k <|
      impl_chain_0N k fun v =>
      slices_Reverse_impl_Point_impl_Point_0N k <|
      impl_chain_0N k fun v1 =>
      slices_Concat_impl_Point_impl_Point_0M2 k v v1 fun v2 =>
      bif decide ((((List.length v2) : Nat) : Int) < 3) then
        r0 5
      else
        impl_IsPolygon k v2 fun v3 =>
        bif (!v3) then
          r0 3
        else
          r1 v2 0)
    (fun v4 =>
      slices_SortFunc_impl_Point_impl_Point_1F_impl_pointOrder k v4 fun v5 =>
      slices_Compact_impl_Point_impl_Point k v5 fun v6 =>
      impl_chain k v6 fun v7 =>
      slices_Reverse_impl_Point_impl_Point k v6 fun v8 =>
      impl_chain k v8 fun v9 =>
      slices_Concat_impl_Point_impl_Point_0M2 k v7 v9 fun v10 =>
      bif decide ((((List.length v10) : Nat) : Int) < 3) then
        r0 5
      else
        impl_IsPolygon k v10 fun v11 =>
        bif (!v11) then
          r0 3
        else
          r1 v10 0)

noncomputable def impl_MapPolygon_l7 {α : Type} : Nat → Int → Int → Int → Int → Int → Int → Int → Int → (List (Int × Int)) → (List (Int × Int)) → (Int → Int → Int → Int → Int → Int → Int → Int → (List (Int × Int)) → (List (Int × Int)) → Option α) → (Int → Option α) → ((List (Int × Int)) → Int → Option α) → Option α
  | 0, _, _, _, _, _, _, _, _, _, _, _, _, _ => none
  | k + 1, x, x1, m4, m5, m6, m7, b_2, b_3, out, x2, b1, r0, r1 =>
    bif decide (x1 < x) then
      bif (decide (0 ≤ x1) && decide (x1 < (((List.length x2) : Nat) : Int))) then
        (x2[x1.toNat]?).bind fun e_ =>
        impl_Matrix_apply k m4 m5 m6 m7 e_.1 e_.2 fun v4 v5 =>
        impl_Point_plus k v4 v5 b_2 b_3 1 fun v6 v7 =>
        bif decide (((List.length out) + 1) ≤ big) then
          impl_MapPolygon_l7 k x (w64 (x1 + 1)) m4 m5 m6 m7 b_2 b_3 (out ++ [(v6, v7)]) x2 b1 r0 r1
        else
          none
      else
        none
    else
      b1 x x1 m4 m5 m6 m7 b_2 b_3 out x2

/-- loop.example/g01297/impl.MapPolygon -/
noncomputable def impl_MapPolygon {α : Type} (k : Nat) (m : Int) (m1 : Int) (m2 : Int) (m3 : Int) (list : List (Int × Int)) (b_ : Int) (b_1 : Int) (r0 : Int → Option α) (r1 : (List (Int × Int)) → Int → Option α) : Option α :=
  impl_IsMatrix k m m1 m2 m3 fun v =>
  bif (!v) then
    r0 1
  else
    impl_IsPolygon k list fun v1 =>
    bif (!v1) then
      r0 1
    else
      impl_IsPoint k b_ b_1 fun v2 =>
      bif (!v2) then
        r0 1
      else
        impl_Matrix_unimodular k m m1 m2 m3 fun v3 =>
        bif (!v3) then
          r0 5
        else
          impl_MapPolygon_l7 k (((List.length list) : Nat) : Int) 0 m m1 m2 m3 b_ b_1 [] list
            (fun _ _ _ _ _ _ _ _ out1 _ =>
              slices_ContainsFunc_impl_Point_impl_Point_1F_impl_MapPolygon_1 k out1 fun v8 =>
              bif v8 then
                r0 3
              else
                impl_hull k out1
                  (fun v9 =>
                    r0 v9)
                  (fun v10 v11 =>
                    r1 v10 v11))
            r0 r1

/-- loop.example/g01297/laws.eqPointS -/
def laws_eqPointS_0N_1N {α : Type} (k : Nat)  (r0 : Bool → Option α) : Option α :=
  r0 true

/-- loop.example/g01297/laws.eqPoint -/
def laws_eqPoint {α : Type} (k : Nat) (a : Int) (a1 : Int) (b_ : Int) (b_1 : Int) (r0 : Bool → Option α) : Option α :=
  bif (!decide (a = b_)) then
    r0 false
  else
  bif (!decide (a1 = b_1)) then
    r0 false
  else
    r0 true

def laws_eqPointS_l4 {α : Type} : Nat → Int → (List (Int × Int)) → (List (Int × Int)) → (Int → (List (Int × Int)) → (List (Int × Int)) → Option α) → (Bool → Option α) → Option α
  | 0, _, _, _, _, _ => none
  | k + 1, i, a1, b_1, b0, r0 =>
    bif decide (i < (((List.length a1) : Nat) : Int)) then
      bif (decide (0 ≤ i) && decide (i < (((List.length a1) : Nat) : Int))) then
        (a1[i.toNat]?).bind fun e_ =>
        bif (decide (0 ≤ i) && decide (i < (((List.length b_1) : Nat) : Int))) then
          (b_1[i.toNat]?).bind fun e_1 =>
          laws_eqPoint k e_.1 e_.2 e_1.1 e_1.2 fun v =>
          bif (!v) then
            r0 false
          else
            laws_eqPointS_l4 k (w64 (i + 1)) a1 b_1 b0 r0
        else
          none
      else
        none
    else
      b0 i a1 b_1

/-- loop.example/g01297/laws.eqPointS -/
def laws_eqPointS {α : Type} (k : Nat) (a : List (Int × Int)) (b_ : List (Int × Int)) (r0 : Bool → Option α) : Option α :=
  bif (!decide ((((List.length a) : Nat) : Int) = (((List.length b_) : Nat) : Int))) then
    r0 false
  else
    laws_eqPointS_l4 k 0 a b_
      (fun _ _ _ =>
        r0 true)
      r0

def laws_markPointS_l2 {α : Type} : Nat → Int → Int → (List (Int × Int)) → (Int → Int → (List (Int × Int)) → Option α) → (Int → (List (Int × Int)) → Option α) → Option α
  | 0, _, _, _, _, _ => none
  | k + 1, k_1, i, a1, b0, r0 =>
    bif decide (i < (((List.length a1) : Nat) : Int)) then
      bif (decide (0 ≤ i) && decide (i < (((List.length a1) : Nat) : Int))) then
        (a1[i.toNat]?).bind fun e_ =>
        bif (decide (0 ≤ i) && decide (i < (((List.length (List.set a1 i.toNat (k_1, e_.2))) : Nat) : Int))) then
          ((List.set a1 i.toNat (k_1, e_.2))[i.toNat]?).bind fun e_1 =>
          laws_markPointS_l2 k (w64 ((w64 (k_1 + 1)) + 1)) (w64 (i + 1)) (List.set (List.set a1 i.toNat (k_1, e_.2)) i.toNat (e_1.1, (w64 (k_1 + 1)))) b0 r0
        else
          none
      else
        none
    else
      b0 k_1 i a1

/-- loop.example/g01297/laws.markPointS -/
def laws_markPointS {α : Type} (k : Nat) (a : List (Int × Int)) (k_ : Int) (r0 : Int → (List (Int × Int)) → Option α) : Option α :=
  laws_markPointS_l2 k k_ 0 a
    (fun k_2 _ a2 =>
      r0 k_2 a2)
    r0

/-- loop.example/g01297/laws.markPointS -/
def laws_markPointS_0N {α : Type} (k : Nat) (k_ : Int) (r0 : Int → Option α) : Option α :=
  r0 k_

/-- loop.example/g01297/laws.heldPointS -/
def laws_heldPointS_0N {α : Type} (k : Nat) (k_ : Int) (r0 : Int → Option α) : Option α :=
  r0 k_

def laws_eqPointS_1N_l4 {α : Type} : Nat → Int → (List (Int × Int)) → (Int → (List (Int × Int)) → Option α) → (Bool → Option α) → Option α
  | 0, _, _, _, _ => none
  | k + 1, i, a1, b0, r0 =>
    bif decide (i < (((List.length a1) : Nat) : Int)) then
      bif (decide (0 ≤ i) && decide (i < (((List.length a1) : Nat) : Int))) then
        (a1[i.toNat]?).bind fun _ =>
        none
      else
        none
    else
      b0 i a1

/-- loop.example/g01297/laws.eqPointS -/
def laws_eqPointS_1N {α : Type} (k : Nat) (a : List (Int × Int)) (r0 : Bool → Option α) : Option α :=
  bif (!decide ((((List.length a) : Nat) : Int) = 0)) then
    r0 false
  else
    laws_eqPointS_1N_l4 k 0 a
      (fun _ _ =>
        r0 true)
      r0

def laws_heldPointS_l2 {α : Type} : Nat → Int → Int → (List (Int × Int)) → (Int → Int → (List (Int × Int)) → Option α) → (Int → Option α) → Option α
  | 0, _, _, _, _, _ => none
  | k + 1, k_1, i, a1, b0, r0 =>
    bif decide (i < (((List.length a1) : Nat) : Int)) then
      bif (decide (0 ≤ i) && decide (i < (((List.length a1) : Nat) : Int))) then
        (a1[i.toNat]?).bind fun e_ =>
        bif (!decide (e_.1 = k_1)) then
          r0 (-1)
        else
        bif (decide (0 ≤ i) && decide (i < (((List.length a1) : Nat) : Int))) then
          (a1[i.toNat]?).bind fun e_1 =>
          bif (!decide (e_1.2 = (w64 (k_1 + 1)))) then
            r0 (-1)
          else
            laws_heldPointS_l2 k (w64 ((w64 (k_1 + 1)) + 1)) (w64 (i + 1)) a1 b0 r0
        else
          none
      else
        none
    else
      b0 k_1 i a1

/-- loop.example/g01297/laws.heldPointS -/
def laws_heldPointS {α : Type} (k : Nat) (a : List (Int × Int)) (k_ : Int) (r0 : Int → Option α) : Option α :=
  laws_heldPointS_l2 k k_ 0 a
    (fun k_2 _ _ =>
      r0 k_2)
    r0

/-- loop.example/g01297/laws.eqPointS -/
def laws_eqPointS_0N {α : Type} (k : Nat) (b_ : List (Int × Int)) (r0 : Bool → Option α) : Option α :=
  bif (!decide (0 = (((List.length b_) : Nat) : Int))) then
    r0 false
  else
    r0 true

/-- loop.example/g01297/laws.FnExactMapPolygon -/
noncomputable def laws_FnExactMapPolygon {α : Type} (k : Nat) (aM : Int) (aM1 : Int) (aM2 : Int) (aM3 : Int) (aList : List (Int × Int)) (aB : Int) (aB1 : Int) (r0 : Bool → Option α) : Option α :=
  laws_szPointS k aList 1048576 fun v =>
  bif decide (v < 0) then
    r0 true
  else
    laws_toMatrix k aM aM1 aM2 aM3 fun v1 v2 v3 v4 =>
    laws_toPointS k aList fun v5 =>
    laws_toPoint k aB aB1 fun v6 v7 =>
    spec_MapPolygon k v1 v2 v3 v4 v5 v6 v7
      (fun v8 =>
        laws_toPointS k aList fun v9 =>
        laws_toMatrix k aM aM1 aM2 aM3 fun v10 v11 v12 v13 =>
        laws_toPoint k aB aB1 fun v14 v15 =>
        impl_MapPolygon k v10 v11 v12 v13 v9 v14 v15
          (fun v16 =>
            laws_eqPointS_0N_1N k fun v17 =>
            bif (!v17) then
              r0 false
            else
            bif (!decide (v16 = v8)) then
              r0 false
            else
              laws_toPointS k aList fun v18 =>
              laws_eqPointS k v9 v18 fun v19 =>
              bif (!v19) then
                r0 false
              else
                laws_markPointS k v9 1 fun v20 _ =>
                bif decide (v20 < 0) then
                  r0 false
                else
                  laws_eqPointS_0N_1N k fun v22 =>
                  bif (!v22) then
                    r0 false
                  else
                  bif (!decide (v16 = v8)) then
                    r0 false
                  else
                    laws_markPointS_0N k 1 fun v23 =>
                    laws_heldPointS_0N k 1 fun v24 =>
                    bif decide (v24 < 0) then
                      r0 false
                    else
                    bif (!decide (v24 = v23)) then
                      r0 false
                    else
                      laws_toMatrix k aM aM1 aM2 aM3 fun v25 v26 v27 v28 =>
                      laws_toPointS k aList fun v29 =>
                      laws_toPoint k aB aB1 fun v30 v31 =>
                      impl_MapPolygon k v25 v26 v27 v28 v29 v30 v31
                        (fun v32 =>
                          laws_eqPointS_0N_1N k fun v33 =>
                          bif (!v33) then
                            r0 false
                          else
                          bif (!decide (v32 = v8)) then
                            r0 false
                          else
                            laws_heldPointS_0N k 1 fun v34 =>
                            bif decide (v34 < 0) then
                              r0 false
                            else
                            bif (!decide (v34 = v23)) then
                              r0 false
                            else
                              r0 true)
                        (fun v35 v36 =>
                          laws_eqPointS_1N k v35 fun v37 =>
                          bif (!v37) then
                            r0 false
                          else
                          bif (!decide (v36 = v8)) then
                            r0 false
                          else
                            laws_heldPointS_0N k 1 fun v38 =>
                            bif decide (v38 < 0) then
                              r0 false
                            else
                            bif (!decide (v38 = v23)) then
                              r0 false
                            else
                              r0 true))
          (fun v39 v40 =>
            laws_eqPointS_1N k v39 fun v41 =>
            bif (!v41) then
              r0 false
            else
            bif (!decide (v40 = v8)) then
              r0 false
            else
              laws_toPointS k aList fun v42 =>
              laws_eqPointS k v9 v42 fun v43 =>
              bif (!v43) then
                r0 false
              else
                laws_markPointS k v9 1 fun v44 _ =>
                bif decide (v44 < 0) then
                  r0 false
                else
                  laws_eqPointS_1N k v39 fun v46 =>
                  bif (!v46) then
                    r0 false
                  else
                  bif (!decide (v40 = v8)) then
                    r0 false
                  else
                    laws_markPointS k v39 1 fun v47 v48 =>
                    laws_heldPointS k v48 1 fun v49 =>
                    bif decide (v49 < 0) then
                      r0 false
                    else
                    bif (!decide (v49 = v47)) then
                      r0 false
                    else
                      laws_toMatrix k aM aM1 aM2 aM3 fun v50 v51 v52 v53 =>
                      laws_toPointS k aList fun v54 =>
                      laws_toPoint k aB aB1 fun v55 v56 =>
                      impl_MapPolygon k v50 v51 v52 v53 v54 v55 v56
                        (fun v57 =>
                          laws_eqPointS_0N_1N k fun v58 =>
                          bif (!v58) then
                            r0 false
                          else
                          bif (!decide (v57 = v8)) then
                            r0 false
                          else
                            laws_heldPointS k v48 1 fun v59 =>
                            bif decide (v59 < 0) then
                              r0 false
                            else
                            bif (!decide (v59 = v47)) then
                              r0 false
                            else
                              r0 true)
                        (fun v60 v61 =>
                          laws_eqPointS_1N k v60 fun v62 =>
                          bif (!v62) then
                            r0 false
                          else
                          bif (!decide (v61 = v8)) then
                            r0 false
                          else
                            laws_heldPointS k v48 1 fun v63 =>
                            bif decide (v63 < 0) then
                              r0 false
                            else
                            bif (!decide (v63 = v47)) then
                              r0 false
                            else
                              r0 true)))
      (fun v64 v65 =>
        laws_toPointS k aList fun v66 =>
        laws_toMatrix k aM aM1 aM2 aM3 fun v67 v68 v69 v70 =>
        laws_toPoint k aB aB1 fun v71 v72 =>
        impl_MapPolygon k v67 v68 v69 v70 v66 v71 v72
          (fun v73 =>
            laws_eqPointS_0N k v64 fun v74 =>
            bif (!v74) then
              r0 false
            else
            bif (!decide (v73 = v65)) then
              r0 false
            else
              laws_toPointS k aList fun v75 =>
              laws_eqPointS k v66 v75 fun v76 =>
              bif (!v76) then
                r0 false
              else
                laws_markPointS k v66 1 fun v77 _ =>
                bif decide (v77 < 0) then
                  r0 false
                else
                  laws_eqPointS_0N k v64 fun v79 =>
                  bif (!v79) then
                    r0 false
                  else
                  bif (!decide (v73 = v65)) then
                    r0 false
                  else
                    laws_markPointS_0N k 1 fun v80 =>
                    laws_heldPointS_0N k 1 fun v81 =>
                    bif decide (v81 < 0) then
                      r0 false
                    else
                    bif (!decide (v81 = v80)) then
                      r0 false
                    else
                      laws_toMatrix k aM aM1 aM2 aM3 fun v82 v83 v84 v85 =>
                      laws_toPointS k aList fun v86 =>
                      laws_toPoint k aB aB1 fun v87 v88 =>
                      impl_MapPolygon k v82 v83 v84 v85 v86 v87 v88
                        (fun v89 =>
                          laws_eqPointS_0N k v64 fun v90 =>
                          bif (!v90) then
                            r0 false
                          else
                          bif (!decide (v89 = v65)) then
                            r0 false
                          else
                            laws_heldPointS_0N k 1 fun v91 =>
                            bif decide (v91 < 0) then
                              r0 false
                            else
                            bif (!decide (v91 = v80)) then
                              r0 false
                            else
                              r0 true)
                        (fun v92 v93 =>
                          laws_eqPointS k v92 v64 fun v94 =>
                          bif (!v94) then
                            r0 false
                          else
                          bif (!decide (v93 = v65)) then
                            r0 false
                          else
                            laws_heldPointS_0N k 1 fun v95 =>
                            bif decide (v95 < 0) then
                              r0 false
                            else
                            bif (!decide (v95 = v80)) then
                              r0 false
                            else
                              r0 true))
          (fun v96 v97 =>
            laws_eqPointS k v96 v64 fun v98 =>
            bif (!v98) then
              r0 false
            else
            bif (!decide (v97 = v65)) then
              r0 false
            else
              laws_toPointS k aList fun v99 =>
              laws_eqPointS k v66 v99 fun v100 =>
              bif (!v100) then
                r0 false
              else
                laws_markPointS k v66 1 fun v101 _ =>
                bif decide (v101 < 0) then
                  r0 false
                else
                  laws_eqPointS k v96 v64 fun v103 =>
                  bif (!v103) then
                    r0 false
                  else
                  bif (!decide (v97 = v65)) then
                    r0 false
                  else
                    laws_markPointS k v96 1 fun v104 v105 =>
                    laws_heldPointS k v105 1 fun v106 =>
                    bif decide (v106 < 0) then
                      r0 false
                    else
                    bif (!decide (v106 = v104)) then
                      r0 false
                    else
                      laws_toMatrix k aM aM1 aM2 aM3 fun v107 v108 v109 v110 =>
                      laws_toPointS k aList fun v111 =>
                      laws_toPoint k aB aB1 fun v112 v113 =>
                      impl_MapPolygon k v107 v108 v109 v110 v111 v112 v113
                        (fun v114 =>
                          laws_eqPointS_0N k v64 fun v115 =>
                          bif (!v115) then
                            r0 false
                          else
                          bif (!decide (v114 = v65)) then
                            r0 false
                          else
                            laws_heldPointS k v105 1 fun v116 =>
                            bif decide (v116 < 0) then
                              r0 false
                            else
                            bif (!decide (v116 = v104)) then
                              r0 false
                            else
                              r0 true)
                        (fun v117 v118 =>
                          laws_eqPointS k v117 v64 fun v119 =>
                          bif (!v119) then
                            r0 false
                          else
                          bif (!decide (v118 = v65)) then
                            r0 false
                          else
                            laws_heldPointS k v105 1 fun v120 =>
                            bif decide (v120 < 0) then
                              r0 false
                            else
                            bif (!decide (v120 = v104)) then
                              r0 false
                            else
                              r0 true)))

end Go.Sh
