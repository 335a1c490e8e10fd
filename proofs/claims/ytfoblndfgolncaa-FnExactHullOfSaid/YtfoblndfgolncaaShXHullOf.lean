/- The program's functions, read without memory: printed by a program of ours. -/
import Derived.Test.YtfoblndfgolncaaMaB
import Derived.Test.YtfoblndfgolncaaEvSort
namespace Go.Sh
open Go Go.Ev

/-- loop.example/g01297/laws.szPointS -/
def laws_szPointS {α : Type} (k : Nat) (a : List (Int × Int)) (left : Int) (r0 : Int → Option α) : Option α :=
  bif decide ((w64 (left - (((List.length a) : Nat) : Int))) < 0) then
    r0 (-1)
  else
    r0 (w64 (left - (((List.length a) : Nat) : Int)))

/-- loop.example/g01297/laws.toPoint -/
def laws_toPoint {α : Type} (k : Nat) (a : Int) (a1 : Int) (r0 : Int → Int → Option α) : Option α :=
  r0 a a1

def laws_toPointS_l3 {α : Type} : Nat → Int → (List (Int × Int)) → (List (Int × Int)) → (Int → (List (Int × Int)) → (List (Int × Int)) → Option α) → ((List (Int × Int)) → Option α) → Option α
  | 0, _, _, _, _, _ => none
  | k + 1, i, a1, out, b0, r0 =>
    bif decide (i < (((List.length a1) : Nat) : Int)) then
      bif (decide (0 ≤ i) && decide (i < (((List.length a1) : Nat) : Int))) then
        (a1[i.toNat]?).bind fun e_ =>
        laws_toPoint k e_.1 e_.2 fun v v1 =>
        bif (decide (0 ≤ i) && decide (i < (((List.length out) : Nat) : Int))) then
          (out[i.toNat]?).bind fun _ =>
          laws_toPointS_l3 k (w64 (i + 1)) a1 (List.set out i.toNat (v, v1)) b0 r0
        else
          none
      else
        none
    else
      b0 i a1 out

/-- loop.example/g01297/laws.toPointS -/
def laws_toPointS {α : Type} (k : Nat) (a : List (Int × Int)) (r0 : (List (Int × Int)) → Option α) : Option α :=
  bif (decide (0 ≤ (((List.length a) : Nat) : Int)) && decide ((((List.length a) : Nat) : Int) ≤ (big : Int))) then
    laws_toPointS_l3 k 0 a (List.replicate (((List.length a) : Nat) : Int).toNat (0, 0))
      (fun _ _ out1 =>
        r0 out1)
      r0
  else
    none

/-- loop.example/g01297/spec.l01In -/
def spec_l01In {α : Type} (k : Nat) (n_ : Int) (low : Int) (high : Int) (r0 : Bool → Option α) : Option α :=
  bif decide (low ≤ n_) then
    r0 (decide (n_ ≤ high))
  else
    r0 false

/-- loop.example/g01297/spec.l01Fits -/
def spec_l01Fits {α : Type} (k : Nat) (x : Int) (r0 : Bool → Option α) : Option α :=
  spec_l01In k x (-1000000) 1000000 fun v =>
  r0 v

/-- loop.example/g01297/spec.l01Is -/
def spec_l01Is {α : Type} (k : Nat) (a : Int) (a1 : Int) (r0 : Bool → Option α) : Option α :=
  spec_l01Fits k a fun v =>
  bif v then
    spec_l01Fits k a1 fun v1 =>
    r0 v1
  else
    r0 false

def spec_l01Code_l2 {α : Type} : Nat → Int → (List (Int × Int)) → (Int → (List (Int × Int)) → Option α) → (Int → Option α) → Option α
  | 0, _, _, _, _ => none
  | k + 1, i, list1, b0, r0 =>
    bif decide (i < (((List.length list1) : Nat) : Int)) then
      bif (decide (0 ≤ i) && decide (i < (((List.length list1) : Nat) : Int))) then
        (list1[i.toNat]?).bind fun e_ =>
        spec_l01Is k e_.1 e_.2 fun v =>
        bif (!v) then
          r0 1
        else
          spec_l01Code_l2 k (w64 (i + 1)) list1 b0 r0
      else
        none
    else
      b0 i list1

/-- loop.example/g01297/spec.l01Code -/
def spec_l01Code {α : Type} (k : Nat) (list : List (Int × Int)) (r0 : Int → Option α) : Option α :=
  spec_l01Code_l2 k 0 list
    (fun _ _ =>
      r0 0)
    r0

/-- loop.example/g01297/spec.l01Points -/
def spec_l01Points {α : Type} (k : Nat) (list : List (Int × Int)) (r0 : Int → Option α) : Option α :=
  spec_l01Code k list fun v =>
  bif (!decide (v = 0)) then
    r0 v
  else
  bif decide (100 < (((List.length list) : Nat) : Int)) then
    r0 2
  else
    r0 0

/-- loop.example/g01297/spec.l09Before -/
def spec_l09Before {α : Type} (k : Nat) (a : Int) (a1 : Int) (b_ : Int) (b_1 : Int) (r0 : Bool → Option α) : Option α :=
  bif decide (a < b_) then
    r0 true
  else
  bif decide (a = b_) then
    r0 (decide (a1 < b_1))
  else
    r0 false

/-- loop.example/g01297/spec.l01Plus -/
def spec_l01Plus {α : Type} (k : Nat) (a : Int) (a1 : Int) (b_ : Int) (b_1 : Int) (k_ : Int) (r0 : Int → Int → Option α) : Option α :=
  r0 (w64 (a + (w64 (k_ * b_)))) (w64 (a1 + (w64 (k_ * b_1))))

/-- loop.example/g01297/spec.l01Det -/
def spec_l01Det {α : Type} (k : Nat) (a : Int) (a1 : Int) (b_ : Int) (b_1 : Int) (r0 : Int → Option α) : Option α :=
  r0 (w64 ((w64 (a * b_1)) - (w64 (a1 * b_))))

/-- loop.example/g01297/spec.l09Far -/
def spec_l09Far {α : Type} (k : Nat) (a : Int) (a1 : Int) (b_ : Int) (b_1 : Int) (r0 : Int → Option α) : Option α :=
  r0 (w64 ((max (w64 (b_ - a)) (w64 (0 - (w64 (b_ - a))))) + (max (w64 (b_1 - a1)) (w64 (0 - (w64 (b_1 - a1)))))))

def spec_l09Hull_l5 {α : Type} : Nat → Int → (List (Int × Int)) → Int → Int → (Int → (List (Int × Int)) → Int → Int → Option α) → ((List (Int × Int)) → Option α) → Option α
  | 0, _, _, _, _, _, _ => none
  | k + 1, i, list1, first, first1, b0, r0 =>
    bif decide (i < (((List.length list1) : Nat) : Int)) then
      bif (decide (0 ≤ i) && decide (i < (((List.length list1) : Nat) : Int))) then
        (list1[i.toNat]?).bind fun e_1 =>
        spec_l09Before k e_1.1 e_1.2 first first1 fun v =>
        bif v then
          bif (decide (0 ≤ i) && decide (i < (((List.length list1) : Nat) : Int))) then
            (list1[i.toNat]?).bind fun e_2 =>
            spec_l09Hull_l5 k (w64 (i + 1)) list1 e_2.1 e_2.2 b0 r0
          else
            none
        else
          spec_l09Hull_l5 k (w64 (i + 1)) list1 first first1 b0 r0
      else
        none
    else
      b0 i list1 first first1

def spec_l09Hull_l13 {α : Type} : Nat → Bool → Int → (List (Int × Int)) → Int → Int → (List (Int × Int)) → Int → Int → Int → Int → (Bool → Int → (List (Int × Int)) → Int → Int → (List (Int × Int)) → Int → Int → Int → Int → Option α) → ((List (Int × Int)) → Option α) → Option α
  | 0, _, _, _, _, _, _, _, _, _, _, _, _ => none
  | k + 1, found, i2, list4, first6, first7, out1, now, now1, next, next1, b4, r0 =>
    bif decide (i2 < (((List.length list4) : Nat) : Int)) then
      bif (decide (0 ≤ i2) && decide (i2 < (((List.length list4) : Nat) : Int))) then
        (list4[i2.toNat]?).bind fun e_4 =>
        bif (decide (e_4.1 = now) && decide (e_4.2 = now1)) then
          spec_l09Hull_l13 k found (w64 (i2 + 1)) list4 first6 first7 out1 now now1 next next1 b4 r0
        else
        bif (!found) then
          bif (decide (0 ≤ i2) && decide (i2 < (((List.length list4) : Nat) : Int))) then
            (list4[i2.toNat]?).bind fun e_5 =>
            spec_l09Hull_l13 k true (w64 (i2 + 1)) list4 first6 first7 out1 now now1 e_5.1 e_5.2 b4 r0
          else
            none
        else
        bif (decide (0 ≤ i2) && decide (i2 < (((List.length list4) : Nat) : Int))) then
          (list4[i2.toNat]?).bind fun e_6 =>
          spec_l01Plus k next next1 now now1 (-1) fun v1 v2 =>
          spec_l01Plus k e_6.1 e_6.2 now now1 (-1) fun v3 v4 =>
          spec_l01Det k v1 v2 v3 v4 fun v5 =>
          bif decide (v5 < 0) then
            bif (decide (0 ≤ i2) && decide (i2 < (((List.length list4) : Nat) : Int))) then
              (list4[i2.toNat]?).bind fun e_7 =>
              spec_l09Hull_l13 k found (w64 (i2 + 1)) list4 first6 first7 out1 now now1 e_7.1 e_7.2 b4 r0
            else
              none
          else
          bif decide (v5 = 0) then
            bif (decide (0 ≤ i2) && decide (i2 < (((List.length list4) : Nat) : Int))) then
              (list4[i2.toNat]?).bind fun e_8 =>
              spec_l09Far k now now1 e_8.1 e_8.2 fun v6 =>
              spec_l09Far k now now1 next next1 fun v7 =>
              bif decide (v7 < v6) then
                bif (decide (0 ≤ i2) && decide (i2 < (((List.length list4) : Nat) : Int))) then
                  (list4[i2.toNat]?).bind fun e_9 =>
                  spec_l09Hull_l13 k found (w64 (i2 + 1)) list4 first6 first7 out1 now now1 e_9.1 e_9.2 b4 r0
                else
                  none
              else
                spec_l09Hull_l13 k found (w64 (i2 + 1)) list4 first6 first7 out1 now now1 next next1 b4 r0
            else
              none
          else
            spec_l09Hull_l13 k found (w64 (i2 + 1)) list4 first6 first7 out1 now now1 next next1 b4 r0
        else
          none
      else
        none
    else
      b4 found i2 list4 first6 first7 out1 now now1 next next1

def spec_l09Hull_l10 {α : Type} : Nat → (List (Int × Int)) → Int → Int → (List (Int × Int)) → ((List (Int × Int)) → Option α) → Option α
  | 0, _, _, _, _, _ => none
  | k + 1, list3, first4, first5, out, r0 =>
    bif (decide (0 ≤ (w64 ((((List.length out) : Nat) : Int) - 1))) && decide ((w64 ((((List.length out) : Nat) : Int) - 1)) < (((List.length out) : Nat) : Int))) then
      (out[(w64 ((((List.length out) : Nat) : Int) - 1)).toNat]?).bind fun e_3 =>
      spec_l09Hull_l13 k false 0 list3 first4 first5 out e_3.1 e_3.2 0 0
        (fun found1 _ list5 first8 first9 out2 _ _ next2 next3 =>
          bif (!found1) then
            r0 out2
          else
          bif (decide (next2 = first8) && decide (next3 = first9)) then
            r0 out2
          else
          bif decide (((List.length out2) + 1) ≤ big) then
            bif decide ((((List.length list5) : Nat) : Int) < (((List.length (out2 ++ [(next2, next3)])) : Nat) : Int)) then
              r0 (out2 ++ [(next2, next3)])
            else
              spec_l09Hull_l10 k list5 first8 first9 (out2 ++ [(next2, next3)]) r0
          else
            none)
        r0
    else
      none

/-- loop.example/g01297/spec.l09Hull -/
def spec_l09Hull {α : Type} (k : Nat) (list : List (Int × Int)) (r0 : (List (Int × Int)) → Option α) : Option α :=
  bif decide ((((List.length list) : Nat) : Int) = 0) then
    r0 []
  else
  bif (true && decide (0 < (((List.length list) : Nat) : Int))) then
    (list[0]?).bind fun e_ =>
    spec_l09Hull_l5 k 0 list e_.1 e_.2
      (fun _ list2 first2 first3 =>
        spec_l09Hull_l10 k list2 first2 first3 [(first2, first3)]
          r0)
      r0
  else
    none

/-- loop.example/g01297/spec.l09Side -/
def spec_l09Side {α : Type} (k : Nat) (a : Int) (a1 : Int) (b_ : Int) (b_1 : Int) (c : Int) (c1 : Int) (r0 : Int → Option α) : Option α :=
  spec_l01Plus k b_ b_1 a a1 (-1) fun v v1 =>
  spec_l01Plus k c c1 b_ b_1 (-1) fun v2 v3 =>
  spec_l01Det k v v1 v2 v3 fun v4 =>
  r0 v4

/-- loop.example/g01297/spec.l09Half -/
def spec_l09Half {α : Type} (k : Nat) (a : Int) (a1 : Int) (r0 : Int → Option α) : Option α :=
  bif decide (0 < a1) then
    r0 0
  else
  bif decide (a1 = 0) then
    bif decide (0 < a) then
      r0 0
    else
      r0 1
  else
    r0 1

def spec_l09Is_l6 {α : Type} : Nat → Int → Int → Int → (List (Int × Int)) → (Int → Int → Int → (List (Int × Int)) → Option α) → (Bool → Option α) → Option α
  | 0, _, _, _, _, _, _ => none
  | k + 1, n_, turns, i, list1, b0, r0 =>
    bif decide (i < n_) then
      bif (decide (0 ≤ i) && decide (i < (((List.length list1) : Nat) : Int))) then
        (list1[i.toNat]?).bind fun e_ =>
        bif decide (n_ = 0) then
          none
        else
        bif (decide (0 ≤ (Int.tmod (w64 (i + 1)) n_)) && decide ((Int.tmod (w64 (i + 1)) n_) < (((List.length list1) : Nat) : Int))) then
          (list1[(Int.tmod (w64 (i + 1)) n_).toNat]?).bind fun e_1 =>
          bif decide (n_ = 0) then
            none
          else
          bif (decide (0 ≤ (Int.tmod (w64 (i + 2)) n_)) && decide ((Int.tmod (w64 (i + 2)) n_) < (((List.length list1) : Nat) : Int))) then
            (list1[(Int.tmod (w64 (i + 2)) n_).toNat]?).bind fun e_2 =>
            spec_l01In k e_.1 (-1000) 1000 fun v =>
            bif (!v) then
              r0 false
            else
              spec_l01In k e_.2 (-1000) 1000 fun v1 =>
              bif (!v1) then
                r0 false
              else
                spec_l01Is k e_1.1 e_1.2 fun v2 =>
                bif (!v2) then
                  r0 false
                else
                  spec_l01Is k e_2.1 e_2.2 fun v3 =>
                  bif (!v3) then
                    r0 false
                  else
                    spec_l09Side k e_.1 e_.2 e_1.1 e_1.2 e_2.1 e_2.2 fun v4 =>
                    bif decide (v4 ≤ 0) then
                      r0 false
                    else
                      spec_l01Plus k e_1.1 e_1.2 e_.1 e_.2 (-1) fun v5 v6 =>
                      spec_l09Half k v5 v6 fun v7 =>
                      bif decide (v7 = 1) then
                        spec_l01Plus k e_2.1 e_2.2 e_1.1 e_1.2 (-1) fun v8 v9 =>
                        spec_l09Half k v8 v9 fun v10 =>
                        bif decide (v10 = 0) then
                          spec_l09Is_l6 k n_ (w64 (turns + 1)) (w64 (i + 1)) list1 b0 r0
                        else
                          spec_l09Is_l6 k n_ turns (w64 (i + 1)) list1 b0 r0
                      else
                        spec_l09Is_l6 k n_ turns (w64 (i + 1)) list1 b0 r0
          else
            none
        else
          none
      else
        none
    else
      b0 n_ turns i list1

/-- loop.example/g01297/spec.l09Is -/
def spec_l09Is {α : Type} (k : Nat) (list : List (Int × Int)) (r0 : Bool → Option α) : Option α :=
  bif decide ((((List.length list) : Nat) : Int) < 3) then
    r0 false
  else
  bif decide (12 < (((List.length list) : Nat) : Int)) then
    r0 false
  else
    spec_l09Is_l6 k (((List.length list) : Nat) : Int) 0 0 list
      (fun _ turns1 _ _ =>
        r0 (decide (turns1 = 1)))
      r0

/-- loop.example/g01297/spec.l09Told -/
def spec_l09Told {α : Type} (k : Nat) (list : List (Int × Int)) (r0 : Int → Option α) (r1 : (List (Int × Int)) → Int → Option α) : Option α :=
  spec_l09Hull k list fun v =>
  bif decide ((((List.length v) : Nat) : Int) < 3) then
    r0 5
  else
    spec_l09Is k v fun v1 =>
    bif (!v1) then
      r0 3
    else
      r1 v 0

/-- loop.example/g01297/spec.HullOf -/
def spec_HullOf {α : Type} (k : Nat) (list : List (Int × Int)) (r0 : Int → Option α) (r1 : (List (Int × Int)) → Int → Option α) : Option α :=
  spec_l01Points k list fun v =>
  bif (!decide (v = 0)) then
    r0 v
  else
    spec_l09Told k list
      (fun v1 =>
        r0 v1)
      (fun v2 v3 =>
        r1 v2 v3)

/-- loop.example/g01297/impl.in -/
def impl_in {α : Type} (k : Nat) (n_ : Int) (low : Int) (high : Int) (r0 : Bool → Option α) : Option α :=
  bif decide (low ≤ n_) then
    r0 (decide (n_ ≤ high))
  else
    r0 false

/-- loop.example/g01297/impl.isCoord -/
def impl_isCoord {α : Type} (k : Nat) (n_ : Int) (r0 : Bool → Option α) : Option α :=
  impl_in k n_ (-1000000) 1000000 fun v =>
  r0 v

/-- loop.example/g01297/impl.IsPoint -/
def impl_IsPoint {α : Type} (k : Nat) (a : Int) (a1 : Int) (r0 : Bool → Option α) : Option α :=
  impl_isCoord k a fun v =>
  bif v then
    impl_isCoord k a1 fun v1 =>
    r0 v1
  else
    r0 false

/-- loop.example/g01297/impl.points$1 -/
def impl_points_1 {α : Type} (k : Nat) (a : Int) (a1 : Int) (r0 : Bool → Option α) : Option α :=
  impl_IsPoint k a a1 fun v =>
  r0 (!v)

def slices_IndexFunc_impl_Point_impl_Point_1F_impl_points_1_l2 {α : Type} : Nat → Int → Int → (List (Int × Int)) → (Int → Int → (List (Int × Int)) → Option α) → (Int → Option α) → Option α
  | 0, _, _, _, _, _ => none
  | k + 1, x, x1, s1, b0, r0 =>
    bif decide (x1 < x) then
      bif (decide (0 ≤ x1) && decide (x1 < (((List.length s1) : Nat) : Int))) then
        (s1[x1.toNat]?).bind fun e_ =>
        impl_points_1 k e_.1 e_.2 fun v =>
        bif v then
          r0 x1
        else
          slices_IndexFunc_impl_Point_impl_Point_1F_impl_points_1_l2 k x (w64 (x1 + 1)) s1 b0 r0
      else
        none
    else
      b0 x x1 s1

/-- slices.IndexFunc[[]loop.example/g01297/impl.Point,loop.example/g01297/impl.Point] -/
def slices_IndexFunc_impl_Point_impl_Point_1F_impl_points_1 {α : Type} (k : Nat) (s : List (Int × Int)) (r0 : Int → Option α) : Option α :=
  slices_IndexFunc_impl_Point_impl_Point_1F_impl_points_1_l2 k (((List.length s) : Nat) : Int) 0 s
    (fun _ _ _ =>
      r0 (-1))
    r0

/-- slices.ContainsFunc[[]loop.example/g01297/impl.Point,loop.example/g01297/impl.Point] -/
def slices_ContainsFunc_impl_Point_impl_Point_1F_impl_points_1 {α : Type} (k : Nat) (s : List (Int × Int)) (r0 : Bool → Option α) : Option α :=
  slices_IndexFunc_impl_Point_impl_Point_1F_impl_points_1 k s fun v =>
  r0 (decide (0 ≤ v))

/-- loop.example/g01297/impl.points -/
def impl_points {α : Type} (k : Nat) (list : List (Int × Int)) (r0 : Bool → Option α) : Option α :=
  slices_ContainsFunc_impl_Point_impl_Point_1F_impl_points_1 k list fun v =>
  r0 (!v)

/-- slices.Clone[[]loop.example/g01297/impl.Point,loop.example/g01297/impl.Point] -/
noncomputable def slices_Clone_impl_Point_impl_Point {α : Type} (k : Nat) (s : List (Int × Int)) (r0 : Option α) (r1 : (List (Int × Int)) → Option α) : Option α :=
  bif Nat.beq (List.length s) 0 then
    both
      (
        r0)
      (
        bif decide ((0 + (List.length s)) ≤ big) then
          r1 ([] ++ s)
        else
          none)
  else
  bif decide ((0 + (List.length s)) ≤ big) then
    r1 ([] ++ s)
  else
    none

/-- cmp.isNaN[int64] -/
def cmp_isNaN_int64 {α : Type} (k : Nat) (x : Int) (r0 : Bool → Option α) : Option α :=
  r0 (!decide (x = x))

/-- cmp.Compare[int64] -/
def cmp_Compare_int64 {α : Type} (k : Nat) (x : Int) (y : Int) (r0 : Int → Option α) : Option α :=
  cmp_isNaN_int64 k x fun v =>
  cmp_isNaN_int64 k y fun v1 =>
  bif v then
    bif v1 then
      r0 0
    else
      r0 (-1)
  else
  bif v1 then
    r0 1
  else
  bif decide (x < y) then
    r0 (-1)
  else
  bif decide (y < x) then
    r0 1
  else
    r0 0

def cmp_Or_int_l3 {α : Type} : Nat → Int → Int → Int → List Int → (Int → Int → Int → List Int → Option α) → (Int → Option α) → Option α
  | 0, _, _, _, _, _, _ => none
  | k + 1, zero, x, x1, x2, b0, r0 =>
    bif decide (x1 < x) then
      bif (decide (0 ≤ x1) && decide (x1 < (((List.length x2) : Nat) : Int))) then
        (x2[x1.toNat]?).bind fun e_ =>
        bif (!decide (e_ = zero)) then
          r0 e_
        else
          cmp_Or_int_l3 k zero x (w64 (x1 + 1)) x2 b0 r0
      else
        none
    else
      b0 zero x x1 x2

/-- cmp.Or[int] -/
def cmp_Or_int {α : Type} (k : Nat) (vals : List Int) (r0 : Int → Option α) : Option α :=
  cmp_Or_int_l3 k 0 (((List.length vals) : Nat) : Int) 0 vals
    (fun zero1 _ _ _ =>
      r0 zero1)
    r0

/-- loop.example/g01297/impl.pointOrder -/
def impl_pointOrder {α : Type} (k : Nat) (a : Int) (a1 : Int) (b_ : Int) (b_1 : Int) (r0 : Int → Option α) : Option α :=
  cmp_Compare_int64 k a b_ fun v =>
  cmp_Compare_int64 k a1 b_1 fun v1 =>
  cmp_Or_int k [v, v1] fun v2 =>
  r0 v2

/-- slices.SortFunc[[]loop.example/g01297/impl.Point,loop.example/g01297/impl.Point]: as the shelf has it -/
def slices_SortFunc_impl_Point_impl_Point_0N_1F_impl_pointOrder {α : Type} (_ : Nat) (r0 : Option α) : Option α := r0

/-- slices.Compact[[]loop.example/g01297/impl.Point,loop.example/g01297/impl.Point] -/
def slices_Compact_impl_Point_impl_Point_0N {α : Type} (k : Nat)  (r0 : Option α) : Option α :=
  r0

/-- loop.example/g01297/impl.chain -/
def impl_chain_0N {α : Type} (k : Nat)  (r0 : (List (Int × Int)) → Option α) : Option α :=
  r0 []

/-- slices.Reverse[[]loop.example/g01297/impl.Point,loop.example/g01297/impl.Point] -/
def slices_Reverse_impl_Point_impl_Point_0N {α : Type} (k : Nat)  (r0 : Option α) : Option α :=
  r0

/-- slices.Grow[[]loop.example/g01297/impl.Point,loop.example/g01297/impl.Point] -/
def slices_Grow_impl_Point_impl_Point_0N {α : Type} (k : Nat) (n_ : Int) (r0 : (List (Int × Int)) → Option α) (r1 : Option α) : Option α :=
  bif decide (n_ < 0) then
    none
  else
  bif decide (0 < (w64 (n_ - 0))) then
    bif (decide (1 ≤ (w64 (n_ - 0))) && decide ((w64 (n_ - 0)) ≤ (big : Int))) then
      bif (true && decide (0 ≤ (((List.length (List.replicate ((w64 (n_ - 0)).toNat) (0, 0))) : Nat) : Int))) then
        r0 (List.take 0 (List.replicate ((w64 (n_ - 0)).toNat) (0, 0)))
      else
        none
    else
      none
  else
    r1

/-- slices.Concat[[]loop.example/g01297/impl.Point,loop.example/g01297/impl.Point] -/
def slices_Concat_impl_Point_impl_Point_0M2 {α : Type} (k : Nat) (slices : List (Int × Int)) (slices1 : List (Int × Int)) (r0 : (List (Int × Int)) → Option α) : Option α :=
  bif decide ((w64 (0 + (((List.length slices) : Nat) : Int))) < 0) then
    none
  else
  bif decide ((w64 ((w64 (0 + (((List.length slices) : Nat) : Int))) + (((List.length slices1) : Nat) : Int))) < 0) then
    none
  else
    slices_Grow_impl_Point_impl_Point_0N k (w64 ((w64 (0 + (((List.length slices) : Nat) : Int))) + (((List.length slices1) : Nat) : Int)))
      (fun v =>
        bif decide (((List.length v) + (List.length slices)) ≤ big) then
          bif decide (((List.length (v ++ slices)) + (List.length slices1)) ≤ big) then
            r0 ((v ++ slices) ++ slices1)
          else
            none
        else
          none)
      (
        bif decide ((List.length slices) ≤ big) then
          bif decide (((List.length slices) + (List.length slices1)) ≤ big) then
            r0 (slices ++ slices1)
          else
            none
        else
          none)

/-- loop.example/g01297/impl.small -/
def impl_small {α : Type} (k : Nat) (a : Int) (a1 : Int) (r0 : Bool → Option α) : Option α :=
  impl_in k a (-1000) 1000 fun v =>
  bif v then
    impl_in k a1 (-1000) 1000 fun v1 =>
    r0 v1
  else
    r0 false

/-- loop.example/g01297/impl.IsPolygon$1 -/
def impl_IsPolygon_1 {α : Type} (k : Nat) (a : Int) (a1 : Int) (r0 : Bool → Option α) : Option α :=
  impl_small k a a1 fun v =>
  r0 (!v)

def slices_IndexFunc_impl_Point_impl_Point_1F_impl_IsPolygon_1_l2 {α : Type} : Nat → Int → Int → (List (Int × Int)) → (Int → Int → (List (Int × Int)) → Option α) → (Int → Option α) → Option α
  | 0, _, _, _, _, _ => none
  | k + 1, x, x1, s1, b0, r0 =>
    bif decide (x1 < x) then
      bif (decide (0 ≤ x1) && decide (x1 < (((List.length s1) : Nat) : Int))) then
        (s1[x1.toNat]?).bind fun e_ =>
        impl_IsPolygon_1 k e_.1 e_.2 fun v =>
        bif v then
          r0 x1
        else
          slices_IndexFunc_impl_Point_impl_Point_1F_impl_IsPolygon_1_l2 k x (w64 (x1 + 1)) s1 b0 r0
      else
        none
    else
      b0 x x1 s1

/-- slices.IndexFunc[[]loop.example/g01297/impl.Point,loop.example/g01297/impl.Point] -/
def slices_IndexFunc_impl_Point_impl_Point_1F_impl_IsPolygon_1 {α : Type} (k : Nat) (s : List (Int × Int)) (r0 : Int → Option α) : Option α :=
  slices_IndexFunc_impl_Point_impl_Point_1F_impl_IsPolygon_1_l2 k (((List.length s) : Nat) : Int) 0 s
    (fun _ _ _ =>
      r0 (-1))
    r0

/-- slices.ContainsFunc[[]loop.example/g01297/impl.Point,loop.example/g01297/impl.Point] -/
def slices_ContainsFunc_impl_Point_impl_Point_1F_impl_IsPolygon_1 {α : Type} (k : Nat) (s : List (Int × Int)) (r0 : Bool → Option α) : Option α :=
  slices_IndexFunc_impl_Point_impl_Point_1F_impl_IsPolygon_1 k s fun v =>
  r0 (decide (0 ≤ v))

/-- (loop.example/g01297/impl.polygon).next -/
def impl_polygon_next {α : Type} (k : Nat) (p_ : List (Int × Int)) (i : Int) (r0 : Int → Int → Option α) : Option α :=
  bif decide ((((List.length p_) : Nat) : Int) = 0) then
    none
  else
  bif (decide (0 ≤ (Int.tmod (w64 (i + 1)) (((List.length p_) : Nat) : Int))) && decide ((Int.tmod (w64 (i + 1)) (((List.length p_) : Nat) : Int)) < (((List.length p_) : Nat) : Int))) then
    (p_[(Int.tmod (w64 (i + 1)) (((List.length p_) : Nat) : Int)).toNat]?).bind fun e_ =>
    r0 e_.1 e_.2
  else
    none

/-- (loop.example/g01297/impl.Point).plus -/
def impl_Point_plus {α : Type} (k : Nat) (a : Int) (a1 : Int) (b_ : Int) (b_1 : Int) (k_ : Int) (r0 : Int → Int → Option α) : Option α :=
  r0 (w64 (a + (w64 (k_ * b_)))) (w64 (a1 + (w64 (k_ * b_1))))

/-- (loop.example/g01297/impl.Point).less -/
def impl_Point_less {α : Type} (k : Nat) (a : Int) (a1 : Int) (b_ : Int) (b_1 : Int) (r0 : Int → Int → Option α) : Option α :=
  impl_Point_plus k a a1 b_ b_1 (-1) fun v v1 =>
  r0 v v1

/-- loop.example/g01297/impl.det -/
def impl_det {α : Type} (k : Nat) (a : Int) (a1 : Int) (b_ : Int) (b_1 : Int) (r0 : Int → Option α) : Option α :=
  r0 (w64 ((w64 (a * b_1)) - (w64 (a1 * b_))))

/-- loop.example/g01297/impl.turn -/
def impl_turn {α : Type} (k : Nat) (a : Int) (a1 : Int) (b_ : Int) (b_1 : Int) (c : Int) (c1 : Int) (r0 : Int → Option α) : Option α :=
  impl_Point_less k b_ b_1 a a1 fun v v1 =>
  impl_Point_less k c c1 b_ b_1 fun v2 v3 =>
  impl_det k v v1 v2 v3 fun v4 =>
  r0 v4

def impl_polygon_convex_l6 {α : Type} : Nat → Int → Int → Int → Int → Int → (List (Int × Int)) → Int → Int → Int → Int → (Int → Int → Int → Int → Int → (List (Int × Int)) → Int → Int → Int → Int → Option α) → (Bool → Option α) → Option α
  | 0, _, _, _, _, _, _, _, _, _, _, _, _ => none
  | k + 1, i, x2, x3, x4, x5, p_2, a, a1, b_, b_1, b2, r0 =>
    bif decide (x5 < x4) then
      bif (decide (0 ≤ x5) && decide (x5 < (((List.length p_2) : Nat) : Int))) then
        (p_2[x5.toNat]?).bind fun e_1 =>
        bif (!decide (x5 = i)) then
          bif decide ((((List.length p_2) : Nat) : Int) = 0) then
            none
          else
          bif (!decide (x5 = (Int.tmod (w64 (i + 1)) (((List.length p_2) : Nat) : Int)))) then
            impl_turn k a a1 b_ b_1 e_1.1 e_1.2 fun v2 =>
            bif decide (v2 ≤ 0) then
              r0 false
            else
              impl_polygon_convex_l6 k i x2 x3 x4 (w64 (x5 + 1)) p_2 a a1 b_ b_1 b2 r0
          else
            impl_polygon_convex_l6 k i x2 x3 x4 (w64 (x5 + 1)) p_2 a a1 b_ b_1 b2 r0
        else
          impl_polygon_convex_l6 k i x2 x3 x4 (w64 (x5 + 1)) p_2 a a1 b_ b_1 b2 r0
      else
        none
    else
      b2 i x2 x3 x4 x5 p_2 a a1 b_ b_1

def impl_polygon_convex_l2 {α : Type} : Nat → Int → Int → (List (Int × Int)) → (Int → Int → (List (Int × Int)) → Option α) → (Bool → Option α) → Option α
  | 0, _, _, _, _, _ => none
  | k + 1, x, x1, p_1, b0, r0 =>
    bif decide (x1 < x) then
      bif (decide (0 ≤ x1) && decide (x1 < (((List.length p_1) : Nat) : Int))) then
        (p_1[x1.toNat]?).bind fun e_ =>
        impl_polygon_next k p_1 x1 fun v v1 =>
        impl_polygon_convex_l6 k x1 x x1 (((List.length p_1) : Nat) : Int) 0 p_1 e_.1 e_.2 v v1
          (fun _ x6 x7 _ _ p_3 _ _ _ _ =>
            impl_polygon_convex_l2 k x6 (w64 (x7 + 1)) p_3 b0 r0)
          r0
      else
        none
    else
      b0 x x1 p_1

/-- (loop.example/g01297/impl.polygon).convex -/
def impl_polygon_convex {α : Type} (k : Nat) (p_ : List (Int × Int)) (r0 : Bool → Option α) : Option α :=
  impl_polygon_convex_l2 k (((List.length p_) : Nat) : Int) 0 p_
    (fun _ _ _ =>
      r0 true)
    r0

/-- loop.example/g01297/impl.IsPolygon -/
def impl_IsPolygon {α : Type} (k : Nat) (list : List (Int × Int)) (r0 : Bool → Option α) : Option α :=
  impl_in k (((List.length list) : Nat) : Int) 3 12 fun v =>
  bif (!v) then
    r0 false
  else
    slices_ContainsFunc_impl_Point_impl_Point_1F_impl_IsPolygon_1 k list fun v1 =>
    bif v1 then
      r0 false
    else
      impl_polygon_convex k list fun v2 =>
      r0 v2

/-- slices.SortFunc[[]loop.example/g01297/impl.Point,loop.example/g01297/impl.Point]: as the shelf has it -/
noncomputable def slices_SortFunc_impl_Point_impl_Point_1F_impl_pointOrder {α : Type} (k : Nat) (x : List (Int × Int)) (r0 : (List (Int × Int)) → Option α) : Option α := sortK (fun (p q : Int × Int) => impl_pointOrder k p.1 p.2 q.1 q.2) x r0

def slices_Compact_impl_Point_impl_Point_l9 {α : Type} : Nat → Int → Nat → Nat → Int → (List (Int × Int)) → (Int → Nat → Nat → Int → (List (Int × Int)) → Option α) → ((List (Int × Int)) → Option α) → Option α
  | 0, _, _, _, _, _, _, _ => none
  | k + 1, k_1, s2_, s2_1, k2_, s2, b2, r0 =>
    bif decide (k2_ < ((s2_1 : Nat) : Int)) then
      bif (decide (0 ≤ k2_) && decide (k2_ < ((s2_1 : Nat) : Int))) then
        (s2[(moved s2_ k2_.toNat 1)]?).bind fun e_2 =>
        bif (decide (0 ≤ (w64 (k2_ - 1))) && decide ((w64 (k2_ - 1)) < ((s2_1 : Nat) : Int))) then
          (s2[(moved s2_ ((w64 (k2_ - 1)).toNat) 1)]?).bind fun e_3 =>
          bif (!(decide (e_2.1 = e_3.1) && decide (e_2.2 = e_3.2))) then
            bif (decide (0 ≤ k2_) && decide (k2_ < ((s2_1 : Nat) : Int))) then
              (s2[(moved s2_ k2_.toNat 1)]?).bind fun e_4 =>
              bif (decide (0 ≤ k_1) && decide (k_1 < (((List.length s2) : Nat) : Int))) then
                (s2[k_1.toNat]?).bind fun _ =>
                slices_Compact_impl_Point_impl_Point_l9 k (w64 (k_1 + 1)) s2_ s2_1 (w64 (k2_ + 1)) (List.set s2 k_1.toNat (e_4.1, e_4.2)) b2 r0
              else
                none
            else
              none
          else
            slices_Compact_impl_Point_impl_Point_l9 k k_1 s2_ s2_1 (w64 (k2_ + 1)) s2 b2 r0
        else
          none
      else
        none
    else
      b2 k_1 s2_ s2_1 k2_ s2

def slices_Compact_impl_Point_impl_Point_l4 {α : Type} : Nat → Int → (List (Int × Int)) → (Int → (List (Int × Int)) → Option α) → ((List (Int × Int)) → Option α) → Option α
  | 0, _, _, _, _ => none
  | k + 1, k_, s1, b0, r0 =>
    bif decide (k_ < (((List.length s1) : Nat) : Int)) then
      bif (decide (0 ≤ k_) && decide (k_ < (((List.length s1) : Nat) : Int))) then
        (s1[k_.toNat]?).bind fun e_ =>
        bif (decide (0 ≤ (w64 (k_ - 1))) && decide ((w64 (k_ - 1)) < (((List.length s1) : Nat) : Int))) then
          (s1[(w64 (k_ - 1)).toNat]?).bind fun e_1 =>
          bif (decide (e_.1 = e_1.1) && decide (e_.2 = e_1.2)) then
            bif (decide (0 ≤ k_) && decide (k_ ≤ (((List.length s1) : Nat) : Int))) then
              slices_Compact_impl_Point_impl_Point_l9 k k_ k_.toNat ((List.length s1) - k_.toNat) 1 s1
                (fun k_2 _ _ _ s3 =>
                  bif (decide (0 ≤ k_2) && decide (k_2 ≤ (((List.length s3) : Nat) : Int))) then
                    bif (decide (0 ≤ k_2) && decide (k_2 ≤ (((List.length (((List.take k_2.toNat s3) ++ (List.replicate ((List.length s3) - k_2.toNat) (0, 0))) ++ (List.drop (k_2.toNat + ((List.length s3) - k_2.toNat)) s3))) : Nat) : Int))) then
                      r0 (List.take (k_2.toNat - 0) (((List.take k_2.toNat s3) ++ (List.replicate ((List.length s3) - k_2.toNat) (0, 0))) ++ (List.drop (k_2.toNat + ((List.length s3) - k_2.toNat)) s3)))
                    else
                      none
                  else
                    none)
                r0
            else
              none
          else
            slices_Compact_impl_Point_impl_Point_l4 k (w64 (k_ + 1)) s1 b0 r0
        else
          none
      else
        none
    else
      b0 k_ s1

/-- slices.Compact[[]loop.example/g01297/impl.Point,loop.example/g01297/impl.Point] -/
def slices_Compact_impl_Point_impl_Point {α : Type} (k : Nat) (s : List (Int × Int)) (r0 : (List (Int × Int)) → Option α) : Option α :=
  bif decide ((((List.length s) : Nat) : Int) < 2) then
    r0 s
  else
    slices_Compact_impl_Point_impl_Point_l4 k 1 s
      (fun _ s4 =>
        r0 s4)
      r0

def impl_chain_l5 {α : Type} : Nat → Int → Int → (List (Int × Int)) → Int → Int → (List (Int × Int)) → (Int → Int → (List (Int × Int)) → Int → Int → (List (Int × Int)) → Option α) → ((List (Int × Int)) → Option α) → Option α
  | 0, _, _, _, _, _, _, _, _ => none
  | k + 1, x3, x4, out1, c, c1, x5, b2, r0 =>
    bif decide (1 < (((List.length out1) : Nat) : Int)) then
      bif (decide (0 ≤ (w64 ((((List.length out1) : Nat) : Int) - 2))) && decide ((w64 ((((List.length out1) : Nat) : Int) - 2)) < (((List.length out1) : Nat) : Int))) then
        (out1[(w64 ((((List.length out1) : Nat) : Int) - 2)).toNat]?).bind fun e_1 =>
        bif (decide (0 ≤ (w64 ((((List.length out1) : Nat) : Int) - 1))) && decide ((w64 ((((List.length out1) : Nat) : Int) - 1)) < (((List.length out1) : Nat) : Int))) then
          (out1[(w64 ((((List.length out1) : Nat) : Int) - 1)).toNat]?).bind fun e_2 =>
          impl_turn k e_1.1 e_1.2 e_2.1 e_2.2 c c1 fun v =>
          bif decide (v ≤ 0) then
            bif (decide (0 ≤ (w64 ((((List.length out1) : Nat) : Int) - 1))) && decide ((w64 ((((List.length out1) : Nat) : Int) - 1)) ≤ (((List.length out1) : Nat) : Int))) then
              impl_chain_l5 k x3 x4 (List.take ((w64 ((((List.length out1) : Nat) : Int) - 1)).toNat - 0) out1) c c1 x5 b2 r0
            else
              none
          else
            b2 x3 x4 out1 c c1 x5
        else
          none
      else
        none
    else
      b2 x3 x4 out1 c c1 x5

def impl_chain_l3 {α : Type} : Nat → Int → Int → (List (Int × Int)) → (List (Int × Int)) → (Int → Int → (List (Int × Int)) → (List (Int × Int)) → Option α) → ((List (Int × Int)) → Option α) → Option α
  | 0, _, _, _, _, _, _ => none
  | k + 1, x, x1, out, x2, b0, r0 =>
    bif decide (x1 < x) then
      bif (decide (0 ≤ x1) && decide (x1 < (((List.length x2) : Nat) : Int))) then
        (x2[x1.toNat]?).bind fun e_ =>
        impl_chain_l5 k x x1 out e_.1 e_.2 x2
          (fun x6 x7 out2 c2 c3 x8 =>
            bif decide (((List.length out2) + 1) ≤ big) then
              impl_chain_l3 k x6 (w64 (x7 + 1)) (out2 ++ [(c2, c3)]) x8 b0 r0
            else
              none)
          r0
      else
        none
    else
      b0 x x1 out x2

/-- loop.example/g01297/impl.chain -/
def impl_chain {α : Type} (k : Nat) (list : List (Int × Int)) (r0 : (List (Int × Int)) → Option α) : Option α :=
  impl_chain_l3 k (((List.length list) : Nat) : Int) 0 [] list
    (fun _ _ out3 _ =>
      bif (decide (0 ≤ (max (w64 ((((List.length out3) : Nat) : Int) - 1)) 0)) && decide ((max (w64 ((((List.length out3) : Nat) : Int) - 1)) 0) ≤ (((List.length out3) : Nat) : Int))) then
        r0 (List.take ((max (w64 ((((List.length out3) : Nat) : Int) - 1)) 0).toNat - 0) out3)
      else
        none)
    r0

def slices_Reverse_impl_Point_impl_Point_l1 {α : Type} : Nat → Int → Int → (List (Int × Int)) → (Int → Int → (List (Int × Int)) → Option α) → ((List (Int × Int)) → Option α) → Option α
  | 0, _, _, _, _, _ => none
  | k + 1, i, j, s1, b0, r0 =>
    bif decide (i < j) then
      bif (decide (0 ≤ j) && decide (j < (((List.length s1) : Nat) : Int))) then
        (s1[j.toNat]?).bind fun e_ =>
        bif (decide (0 ≤ i) && decide (i < (((List.length s1) : Nat) : Int))) then
          (s1[i.toNat]?).bind fun e_1 =>
          bif (decide (0 ≤ i) && decide (i < (((List.length s1) : Nat) : Int))) then
            (s1[i.toNat]?).bind fun _ =>
            bif (decide (0 ≤ j) && decide (j < (((List.length (List.set s1 i.toNat (e_.1, e_.2))) : Nat) : Int))) then
              ((List.set s1 i.toNat (e_.1, e_.2))[j.toNat]?).bind fun _ =>
              slices_Reverse_impl_Point_impl_Point_l1 k (w64 (i + 1)) (w64 (j - 1)) (List.set (List.set s1 i.toNat (e_.1, e_.2)) j.toNat (e_1.1, e_1.2)) b0 r0
            else
              none
          else
            none
        else
          none
      else
        none
    else
      b0 i j s1

/-- slices.Reverse[[]loop.example/g01297/impl.Point,loop.example/g01297/impl.Point] -/
def slices_Reverse_impl_Point_impl_Point {α : Type} (k : Nat) (s : List (Int × Int)) (r0 : (List (Int × Int)) → Option α) : Option α :=
  slices_Reverse_impl_Point_impl_Point_l1 k 0 (w64 ((((List.length s) : Nat) : Int) - 1)) s
    (fun _ _ s2 =>
      r0 s2)
    r0

/-- loop.example/g01297/impl.hull -/
noncomputable def impl_hull {α : Type} (k : Nat) (list : List (Int × Int)) (r0 : Int → Option α) (r1 : (List (Int × Int)) → Int → Option α) : Option α :=
  slices_Clone_impl_Point_impl_Point k list
    (
      slices_SortFunc_impl_Point_impl_Point_0N_1F_impl_pointOrder k <|
      slices_Compact_impl_Point_impl_Point_0N k <|
      impl_chain_0N k fun v =>
      slices_Reverse_impl_Point_impl_Point_0N k <|
      impl_chain_0N k fun v1 =>
      slices_Concat_impl_Point_impl_Point_0M2 k v v1 fun v2 =>
      bif decide ((((List.length v2) : Nat) : Int) < 3) then
        r0 5
      else
        impl_IsPolygon k v2 fun v3 =>
        bif (!v3) then
          r0 3
        else
          r1 v2 0)
    (fun v4 =>
      slices_SortFunc_impl_Point_impl_Point_1F_impl_pointOrder k v4 fun v5 =>
      slices_Compact_impl_Point_impl_Point k v5 fun v6 =>
      impl_chain k v6 fun v7 =>
      slices_Reverse_impl_Point_impl_Point k v6 fun v8 =>
      impl_chain k v8 fun v9 =>
      slices_Concat_impl_Point_impl_Point_0M2 k v7 v9 fun v10 =>
      bif decide ((((List.length v10) : Nat) : Int) < 3) then
        r0 5
      else
        impl_IsPolygon k v10 fun v11 =>
        bif (!v11) then
          r0 3
        else
          r1 v10 0)

/-- loop.example/g01297/impl.HullOf -/
noncomputable def impl_HullOf {α : Type} (k : Nat) (list : List (Int × Int)) (r0 : Int → Option α) (r1 : (List (Int × Int)) → Int → Option α) : Option α :=
  impl_points k list fun v =>
  bif (!v) then
    r0 1
  else
  bif decide (100 < (((List.length list) : Nat) : Int)) then
    r0 2
  else
    impl_hull k list
      (fun v1 =>
        r0 v1)
      (fun v2 v3 =>
        r1 v2 v3)

/-- loop.example/g01297/laws.eqPointS -/
def laws_eqPointS_0N_1N {α : Type} (k : Nat)  (r0 : Bool → Option α) : Option α :=
  r0 true

/-- loop.example/g01297/laws.eqPoint -/
def laws_eqPoint {α : Type} (k : Nat) (a : Int) (a1 : Int) (b_ : Int) (b_1 : Int) (r0 : Bool → Option α) : Option α :=
  bif (!decide (a = b_)) then
    r0 false
  else
  bif (!decide (a1 = b_1)) then
    r0 false
  else
    r0 true

def laws_eqPointS_l4 {α : Type} : Nat → Int → (List (Int × Int)) → (List (Int × Int)) → (Int → (List (Int × Int)) → (List (Int × Int)) → Option α) → (Bool → Option α) → Option α
  | 0, _, _, _, _, _ => none
  | k + 1, i, a1, b_1, b0, r0 =>
    bif decide (i < (((List.length a1) : Nat) : Int)) then
      bif (decide (0 ≤ i) && decide (i < (((List.length a1) : Nat) : Int))) then
        (a1[i.toNat]?).bind fun e_ =>
        bif (decide (0 ≤ i) && decide (i < (((List.length b_1) : Nat) : Int))) then
          (b_1[i.toNat]?).bind fun e_1 =>
          laws_eqPoint k e_.1 e_.2 e_1.1 e_1.2 fun v =>
          bif (!v) then
            r0 false
          else
            laws_eqPointS_l4 k (w64 (i + 1)) a1 b_1 b0 r0
        else
          none
      else
        none
    else
      b0 i a1 b_1

/-- loop.example/g01297/laws.eqPointS -/
def laws_eqPointS {α : Type} (k : Nat) (a : List (Int × Int)) (b_ : List (Int × Int)) (r0 : Bool → Option α) : Option α :=
  bif (!decide ((((List.length a) : Nat) : Int) = (((List.length b_) : Nat) : Int))) then
    r0 false
  else
    laws_eqPointS_l4 k 0 a b_
      (fun _ _ _ =>
        r0 true)
      r0

def laws_markPointS_l2 {α : Type} : Nat → Int → Int → (List (Int × Int)) → (Int → Int → (List (Int × Int)) → Option α) → (Int → (List (Int × Int)) → Option α) → Option α
  | 0, _, _, _, _, _ => none
  | k + 1, k_1, i, a1, b0, r0 =>
    bif decide (i < (((List.length a1) : Nat) : Int)) then
      bif (decide (0 ≤ i) && decide (i < (((List.length a1) : Nat) : Int))) then
        (a1[i.toNat]?).bind fun e_ =>
        bif (decide (0 ≤ i) && decide (i < (((List.length (List.set a1 i.toNat (k_1, e_.2))) : Nat) : Int))) then
          ((List.set a1 i.toNat (k_1, e_.2))[i.toNat]?).bind fun e_1 =>
          laws_markPointS_l2 k (w64 ((w64 (k_1 + 1)) + 1)) (w64 (i + 1)) (List.set (List.set a1 i.toNat (k_1, e_.2)) i.toNat (e_1.1, (w64 (k_1 + 1)))) b0 r0
        else
          none
      else
        none
    else
      b0 k_1 i a1

/-- loop.example/g01297/laws.markPointS -/
def laws_markPointS {α : Type} (k : Nat) (a : List (Int × Int)) (k_ : Int) (r0 : Int → (List (Int × Int)) → Option α) : Option α :=
  laws_markPointS_l2 k k_ 0 a
    (fun k_2 _ a2 =>
      r0 k_2 a2)
    r0

/-- loop.example/g01297/laws.markPointS -/
def laws_markPointS_0N {α : Type} (k : Nat) (k_ : Int) (r0 : Int → Option α) : Option α :=
  r0 k_

/-- loop.example/g01297/laws.heldPointS -/
def laws_heldPointS_0N {α : Type} (k : Nat) (k_ : Int) (r0 : Int → Option α) : Option α :=
  r0 k_

def laws_eqPointS_1N_l4 {α : Type} : Nat → Int → (List (Int × Int)) → (Int → (List (Int × Int)) → Option α) → (Bool → Option α) → Option α
  | 0, _, _, _, _ => none
  | k + 1, i, a1, b0, r0 =>
    bif decide (i < (((List.length a1) : Nat) : Int)) then
      bif (decide (0 ≤ i) && decide (i < (((List.length a1) : Nat) : Int))) then
        (a1[i.toNat]?).bind fun _ =>
        none
      else
        none
    else
      b0 i a1

/-- loop.example/g01297/laws.eqPointS -/
def laws_eqPointS_1N {α : Type} (k : Nat) (a : List (Int × Int)) (r0 : Bool → Option α) : Option α :=
  bif (!decide ((((List.length a) : Nat) : Int) = 0)) then
    r0 false
  else
    laws_eqPointS_1N_l4 k 0 a
      (fun _ _ =>
        r0 true)
      r0

def laws_heldPointS_l2 {α : Type} : Nat → Int → Int → (List (Int × Int)) → (Int → Int → (List (Int × Int)) → Option α) → (Int → Option α) → Option α
  | 0, _, _, _, _, _ => none
  | k + 1, k_1, i, a1, b0, r0 =>
    bif decide (i < (((List.length a1) : Nat) : Int)) then
      bif (decide (0 ≤ i) && decide (i < (((List.length a1) : Nat) : Int))) then
        (a1[i.toNat]?).bind fun e_ =>
        bif (!decide (e_.1 = k_1)) then
          r0 (-1)
        else
        bif (decide (0 ≤ i) && decide (i < (((List.length a1) : Nat) : Int))) then
          (a1[i.toNat]?).bind fun e_1 =>
          bif (!decide (e_1.2 = (w64 (k_1 + 1)))) then
            r0 (-1)
          else
            laws_heldPointS_l2 k (w64 ((w64 (k_1 + 1)) + 1)) (w64 (i + 1)) a1 b0 r0
        else
          none
      else
        none
    else
      b0 k_1 i a1

/-- loop.example/g01297/laws.heldPointS -/
def laws_heldPointS {α : Type} (k : Nat) (a : List (Int × Int)) (k_ : Int) (r0 : Int → Option α) : Option α :=
  laws_heldPointS_l2 k k_ 0 a
    (fun k_2 _ _ =>
      r0 k_2)
    r0

/-- loop.example/g01297/laws.eqPointS -/
def laws_eqPointS_0N {α : Type} (k : Nat) (b_ : List (Int × Int)) (r0 : Bool → Option α) : Option α :=
  bif (!decide (0 = (((List.length b_) : Nat) : Int))) then
    r0 false
  else
    r0 true

/-- loop.example/g01297/laws.FnExactHullOf -/
noncomputable def laws_FnExactHullOf {α : Type} (k : Nat) (aList : List (Int × Int)) (r0 : Bool → Option α) : Option α :=
  laws_szPointS k aList 1048576 fun v =>
  bif decide (v < 0) then
    r0 true
  else
    laws_toPointS k aList fun v1 =>
    spec_HullOf k v1
      (fun v2 =>
        laws_toPointS k aList fun v3 =>
        impl_HullOf k v3
          (fun v4 =>
            laws_eqPointS_0N_1N k fun v5 =>
            bif (!v5) then
              r0 false
            else
            bif (!decide (v4 = v2)) then
              r0 false
            else
              laws_toPointS k aList fun v6 =>
              laws_eqPointS k v3 v6 fun v7 =>
              bif (!v7) then
                r0 false
              else
                laws_markPointS k v3 1 fun v8 _ =>
                bif decide (v8 < 0) then
                  r0 false
                else
                  laws_eqPointS_0N_1N k fun v10 =>
                  bif (!v10) then
                    r0 false
                  else
                  bif (!decide (v4 = v2)) then
                    r0 false
                  else
                    laws_markPointS_0N k 1 fun v11 =>
                    laws_heldPointS_0N k 1 fun v12 =>
                    bif decide (v12 < 0) then
                      r0 false
                    else
                    bif (!decide (v12 = v11)) then
                      r0 false
                    else
                      laws_toPointS k aList fun v13 =>
                      impl_HullOf k v13
                        (fun v14 =>
                          laws_eqPointS_0N_1N k fun v15 =>
                          bif (!v15) then
                            r0 false
                          else
                          bif (!decide (v14 = v2)) then
                            r0 false
                          else
                            laws_heldPointS_0N k 1 fun v16 =>
                            bif decide (v16 < 0) then
                              r0 false
                            else
                            bif (!decide (v16 = v11)) then
                              r0 false
                            else
                              r0 true)
                        (fun v17 v18 =>
                          laws_eqPointS_1N k v17 fun v19 =>
                          bif (!v19) then
                            r0 false
                          else
                          bif (!decide (v18 = v2)) then
                            r0 false
                          else
                            laws_heldPointS_0N k 1 fun v20 =>
                            bif decide (v20 < 0) then
                              r0 false
                            else
                            bif (!decide (v20 = v11)) then
                              r0 false
                            else
                              r0 true))
          (fun v21 v22 =>
            laws_eqPointS_1N k v21 fun v23 =>
            bif (!v23) then
              r0 false
            else
            bif (!decide (v22 = v2)) then
              r0 false
            else
              laws_toPointS k aList fun v24 =>
              laws_eqPointS k v3 v24 fun v25 =>
              bif (!v25) then
                r0 false
              else
                laws_markPointS k v3 1 fun v26 _ =>
                bif decide (v26 < 0) then
                  r0 false
                else
                  laws_eqPointS_1N k v21 fun v28 =>
                  bif (!v28) then
                    r0 false
                  else
                  bif (!decide (v22 = v2)) then
                    r0 false
                  else
                    laws_markPointS k v21 1 fun v29 v30 =>
                    laws_heldPointS k v30 1 fun v31 =>
                    bif decide (v31 < 0) then
                      r0 false
                    else
                    bif (!decide (v31 = v29)) then
                      r0 false
                    else
                      laws_toPointS k aList fun v32 =>
                      impl_HullOf k v32
                        (fun v33 =>
                          laws_eqPointS_0N_1N k fun v34 =>
                          bif (!v34) then
                            r0 false
                          else
                          bif (!decide (v33 = v2)) then
                            r0 false
                          else
                            laws_heldPointS k v30 1 fun v35 =>
                            bif decide (v35 < 0) then
                              r0 false
                            else
                            bif (!decide (v35 = v29)) then
                              r0 false
                            else
                              r0 true)
                        (fun v36 v37 =>
                          laws_eqPointS_1N k v36 fun v38 =>
                          bif (!v38) then
                            r0 false
                          else
                          bif (!decide (v37 = v2)) then
                            r0 false
                          else
                            laws_heldPointS k v30 1 fun v39 =>
                            bif decide (v39 < 0) then
                              r0 false
                            else
                            bif (!decide (v39 = v29)) then
                              r0 false
                            else
                              r0 true)))
      (fun v40 v41 =>
        laws_toPointS k aList fun v42 =>
        impl_HullOf k v42
          (fun v43 =>
            laws_eqPointS_0N k v40 fun v44 =>
            bif (!v44) then
              r0 false
            else
            bif (!decide (v43 = v41)) then
              r0 false
            else
              laws_toPointS k aList fun v45 =>
              laws_eqPointS k v42 v45 fun v46 =>
              bif (!v46) then
                r0 false
              else
                laws_markPointS k v42 1 fun v47 _ =>
                bif decide (v47 < 0) then
                  r0 false
                else
                  laws_eqPointS_0N k v40 fun v49 =>
                  bif (!v49) then
                    r0 false
                  else
                  bif (!decide (v43 = v41)) then
                    r0 false
                  else
                    laws_markPointS_0N k 1 fun v50 =>
                    laws_heldPointS_0N k 1 fun v51 =>
                    bif decide (v51 < 0) then
                      r0 false
                    else
                    bif (!decide (v51 = v50)) then
                      r0 false
                    else
                      laws_toPointS k aList fun v52 =>
                      impl_HullOf k v52
                        (fun v53 =>
                          laws_eqPointS_0N k v40 fun v54 =>
                          bif (!v54) then
                            r0 false
                          else
                          bif (!decide (v53 = v41)) then
                            r0 false
                          else
                            laws_heldPointS_0N k 1 fun v55 =>
                            bif decide (v55 < 0) then
                              r0 false
                            else
                            bif (!decide (v55 = v50)) then
                              r0 false
                            else
                              r0 true)
                        (fun v56 v57 =>
                          laws_eqPointS k v56 v40 fun v58 =>
                          bif (!v58) then
                            r0 false
                          else
                          bif (!decide (v57 = v41)) then
                            r0 false
                          else
                            laws_heldPointS_0N k 1 fun v59 =>
                            bif decide (v59 < 0) then
                              r0 false
                            else
                            bif (!decide (v59 = v50)) then
                              r0 false
                            else
                              r0 true))
          (fun v60 v61 =>
            laws_eqPointS k v60 v40 fun v62 =>
            bif (!v62) then
              r0 false
            else
            bif (!decide (v61 = v41)) then
              r0 false
            else
              laws_toPointS k aList fun v63 =>
              laws_eqPointS k v42 v63 fun v64 =>
              bif (!v64) then
                r0 false
              else
                laws_markPointS k v42 1 fun v65 _ =>
                bif decide (v65 < 0) then
                  r0 false
                else
                  laws_eqPointS k v60 v40 fun v67 =>
                  bif (!v67) then
                    r0 false
                  else
                  bif (!decide (v61 = v41)) then
                    r0 false
                  else
                    laws_markPointS k v60 1 fun v68 v69 =>
                    laws_heldPointS k v69 1 fun v70 =>
                    bif decide (v70 < 0) then
                      r0 false
                    else
                    bif (!decide (v70 = v68)) then
                      r0 false
                    else
                      laws_toPointS k aList fun v71 =>
                      impl_HullOf k v71
                        (fun v72 =>
                          laws_eqPointS_0N k v40 fun v73 =>
                          bif (!v73) then
                            r0 false
                          else
                          bif (!decide (v72 = v41)) then
                            r0 false
                          else
                            laws_heldPointS k v69 1 fun v74 =>
                            bif decide (v74 < 0) then
                              r0 false
                            else
                            bif (!decide (v74 = v68)) then
                              r0 false
                            else
                              r0 true)
                        (fun v75 v76 =>
                          laws_eqPointS k v75 v40 fun v77 =>
                          bif (!v77) then
                            r0 false
                          else
                          bif (!decide (v76 = v41)) then
                            r0 false
                          else
                            laws_heldPointS k v69 1 fun v78 =>
                            bif decide (v78 < 0) then
                              r0 false
                            else
                            bif (!decide (v78 = v68)) then
                              r0 false
                            else
                              r0 true)))

end Go.Sh
