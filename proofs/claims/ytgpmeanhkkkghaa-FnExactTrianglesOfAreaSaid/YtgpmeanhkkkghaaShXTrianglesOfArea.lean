/- The program's functions, read without memory: printed by a program of ours. -/
import Derived.Test.YtgpmeanhkkkghaaMaB
import Derived.Test.YtgpmeanhkkkghaaEvSort
namespace Go.Sh
open Go Go.Ev

/-- loop.example/g01297/spec.l01In -/
def spec_l01In {α : Type} (k : Nat) (n_ : Int) (low : Int) (high : Int) (r0 : Bool → Option α) : Option α :=
  bif decide (low ≤ n_) then
    r0 (decide (n_ ≤ high))
  else
    r0 false

/-- loop.example/g01297/spec.l04Of -/
def spec_l04Of {α : Type} (k : Nat) (x : Int) (x1 : Int) (x2 : Int) (r0 : Int → Int → Int → Int → Int → Int → Option α) : Option α :=
  r0 0 0 x 0 x1 x2

/-- loop.example/g01297/spec.l01Plus -/
def spec_l01Plus {α : Type} (k : Nat) (a : Int) (a1 : Int) (b_ : Int) (b_1 : Int) (k_ : Int) (r0 : Int → Int → Option α) : Option α :=
  r0 (w64 (a + (w64 (k_ * b_)))) (w64 (a1 + (w64 (k_ * b_1))))

def spec_l01Gcd_l1 {α : Type} : Nat → Int → Int → (Int → Int → Option α) → (Int → Option α) → Option α
  | 0, _, _, _, _ => none
  | k + 1, a1, b_1, b0, r0 =>
    bif (!decide (b_1 = 0)) then
      bif decide (b_1 = 0) then
        none
      else
        spec_l01Gcd_l1 k b_1 (Int.tmod a1 b_1) b0 r0
    else
      b0 a1 b_1

/-- loop.example/g01297/spec.l01Gcd -/
def spec_l01Gcd {α : Type} (k : Nat) (a : Int) (b_ : Int) (r0 : Int → Option α) : Option α :=
  spec_l01Gcd_l1 k a b_
    (fun a2 _ =>
      r0 (max a2 (w64 (0 - a2))))
    r0

/-- loop.example/g01297/spec.l01Part -/
def spec_l01Part {α : Type} (k : Nat) (a : Int) (a1 : Int) (r0 : Int → Int → Option α) : Option α :=
  spec_l01Gcd k a a1 fun v =>
  bif decide (v = 0) then
    none
  else
  bif decide (v = 0) then
    none
  else
    r0 (w64 (Int.tdiv a v)) (w64 (Int.tdiv a1 v))

/-- loop.example/g01297/spec.l01Length -/
def spec_l01Length {α : Type} (k : Nat) (a : Int) (a1 : Int) (b_ : Int) (b_1 : Int) (r0 : Int → Option α) : Option α :=
  spec_l01Gcd k (w64 (b_ - a)) (w64 (b_1 - a1)) fun v =>
  r0 v

/-- loop.example/g01297/spec.l01Det -/
def spec_l01Det {α : Type} (k : Nat) (a : Int) (a1 : Int) (b_ : Int) (b_1 : Int) (r0 : Int → Option α) : Option α :=
  r0 (w64 ((w64 (a * b_1)) - (w64 (a1 * b_))))

/-- loop.example/g01297/spec.l01Area -/
def spec_l01Area {α : Type} (k : Nat) (a : Int) (a1 : Int) (b_ : Int) (b_1 : Int) (c : Int) (c1 : Int) (r0 : Int → Option α) : Option α :=
  spec_l01Plus k b_ b_1 a a1 (-1) fun v v1 =>
  spec_l01Plus k c c1 a a1 (-1) fun v2 v3 =>
  spec_l01Det k v v1 v2 v3 fun v4 =>
  r0 (max v4 (w64 (0 - v4)))

/-- loop.example/g01297/spec.l04Area -/
def spec_l04Area {α : Type} (k : Nat) (t : Int) (t1 : Int) (t2 : Int) (t3 : Int) (t4 : Int) (t5 : Int) (r0 : Int → Option α) : Option α :=
  spec_l01Area k t t1 t2 t3 t4 t5 fun v =>
  r0 v

/-- loop.example/g01297/spec.l01Rest -/
def spec_l01Rest {α : Type} (k : Nat) (n_ : Int) (x : Int) (r0 : Int → Option α) : Option α :=
  bif decide (n_ = 0) then
    none
  else
  bif decide (n_ = 0) then
    none
  else
    r0 (Int.tmod (w64 ((Int.tmod x n_) + n_)) n_)

def spec_l01Base_l5 {α : Type} : Nat → Int → Int → Int → Int → Int → Int → Int → Int → Int → (Int → Int → Int → Int → Int → Int → Int → Int → Int → Option α) → (Int → Int → Option α) → Option α
  | 0, _, _, _, _, _, _, _, _, _, _, _ => none
  | k + 1, n_, x, before, rest, next, a2, a3, x1, x2, b0, r0 =>
    bif (!decide (next = 0)) then
      bif decide (next = 0) then
        none
      else
        spec_l01Base_l5 k n_ before (w64 (x - (w64 ((w64 (Int.tdiv rest next)) * before)))) next (w64 (rest - (w64 ((w64 (Int.tdiv rest next)) * next)))) a2 a3 x1 x2 b0 r0
    else
      b0 n_ x before rest next a2 a3 x1 x2

/-- loop.example/g01297/spec.l01Base -/
def spec_l01Base {α : Type} (k : Nat) (a : Int) (a1 : Int) (r0 : Int → Int → Option α) : Option α :=
  bif decide (a = 0) then
    r0 (w64 (0 - a1)) 0
  else
    spec_l01Rest k (max a (w64 (0 - a))) a1 fun v =>
    spec_l01Base_l5 k (max a (w64 (0 - a))) 1 0 v (max a (w64 (0 - a))) a a1 0 0
      (fun n_1 x3 _ _ _ a4 a5 _ _ =>
        spec_l01Rest k n_1 (w64 (0 - x3)) fun v1 =>
        bif decide (a4 = 0) then
          none
        else
          r0 v1 (w64 (Int.tdiv (w64 (1 + (w64 (a5 * v1)))) a4)))
      r0

/-- loop.example/g01297/spec.l04Shape -/
def spec_l04Shape {α : Type} (k : Nat) (t : Int) (t1 : Int) (t2 : Int) (t3 : Int) (t4 : Int) (t5 : Int) (i : Int) (j : Int) (r0 : Int → Int → Int → Option α) : Option α :=
  bif (decide (0 ≤ j) && decide (j < 3)) then
    ([t, t1, t2, t3, t4, t5][(j.toNat * 2)]?).bind fun e_ =>
    ([t, t1, t2, t3, t4, t5][((j.toNat * 2) + 1)]?).bind fun e_1 =>
    bif (decide (0 ≤ i) && decide (i < 3)) then
      ([t, t1, t2, t3, t4, t5][(i.toNat * 2)]?).bind fun e_2 =>
      ([t, t1, t2, t3, t4, t5][((i.toNat * 2) + 1)]?).bind fun e_3 =>
      bif (decide (0 ≤ (w64 ((w64 (3 - i)) - j))) && decide ((w64 ((w64 (3 - i)) - j)) < 3)) then
        ([t, t1, t2, t3, t4, t5][((w64 ((w64 (3 - i)) - j)).toNat * 2)]?).bind fun e_4 =>
        ([t, t1, t2, t3, t4, t5][(((w64 ((w64 (3 - i)) - j)).toNat * 2) + 1)]?).bind fun e_5 =>
        bif (decide (0 ≤ i) && decide (i < 3)) then
          ([t, t1, t2, t3, t4, t5][(i.toNat * 2)]?).bind fun e_6 =>
          ([t, t1, t2, t3, t4, t5][((i.toNat * 2) + 1)]?).bind fun e_7 =>
          spec_l01Plus k e_ e_1 e_2 e_3 (-1) fun v v1 =>
          spec_l01Plus k e_4 e_5 e_6 e_7 (-1) fun v2 v3 =>
          spec_l01Part k v v1 fun v4 v5 =>
          bif (decide (0 ≤ i) && decide (i < 3)) then
            ([t, t1, t2, t3, t4, t5][(i.toNat * 2)]?).bind fun e_8 =>
            ([t, t1, t2, t3, t4, t5][((i.toNat * 2) + 1)]?).bind fun e_9 =>
            bif (decide (0 ≤ j) && decide (j < 3)) then
              ([t, t1, t2, t3, t4, t5][(j.toNat * 2)]?).bind fun e_10 =>
              ([t, t1, t2, t3, t4, t5][((j.toNat * 2) + 1)]?).bind fun e_11 =>
              spec_l01Length k e_8 e_9 e_10 e_11 fun v6 =>
              spec_l04Area k t t1 t2 t3 t4 t5 fun v7 =>
              bif decide (v6 = 0) then
                none
              else
                spec_l01Base k v4 v5 fun v8 v9 =>
                spec_l01Det k v2 v3 v8 v9 fun v10 =>
                spec_l01Rest k (w64 (Int.tdiv v7 v6)) v10 fun v11 =>
                r0 v6 v11 (w64 (Int.tdiv v7 v6))
            else
              none
          else
            none
        else
          none
      else
        none
    else
      none
  else
    none

/-- loop.example/g01297/spec.l04Before -/
def spec_l04Before {α : Type} (k : Nat) (x : Int) (x1 : Int) (x2 : Int) (y : Int) (y1 : Int) (y2 : Int) (r0 : Bool → Option α) : Option α :=
  bif (!decide (x = y)) then
    r0 (decide (x < y))
  else
  bif (!decide (x1 = y1)) then
    r0 (decide (x1 < y1))
  else
    r0 (decide (x2 < y2))

def spec_l04Normal_l3 {α : Type} : Nat → Int → Int → Int → Int → Int → Int → Int → Int → Int → Int → Int → Int → Int → (Int → Int → Int → Int → Int → Int → Int → Int → Int → Int → Int → Int → Int → Option α) → (Int → Int → Int → Option α) → Option α
  | 0, _, _, _, _, _, _, _, _, _, _, _, _, _, _, _ => none
  | k + 1, i, t6, t7, t8, t9, t10, t11, x, x1, x2, out, out1, out2, b0, r0 =>
    bif decide (i < 3) then
      bif decide (i = 0) then
        bif decide (i = 1) then
          bif decide (i = 2) then
            spec_l04Normal_l3 k (w64 (i + 1)) t6 t7 t8 t9 t10 t11 x x1 x2 out out1 out2 b0 r0
          else
            spec_l04Shape k t6 t7 t8 t9 t10 t11 i 2 fun v3 v4 v5 =>
            spec_l04Before k v3 v4 v5 out out1 out2 fun v6 =>
            bif v6 then
              spec_l04Normal_l3 k (w64 (i + 1)) t6 t7 t8 t9 t10 t11 x x1 x2 v3 v4 v5 b0 r0
            else
              spec_l04Normal_l3 k (w64 (i + 1)) t6 t7 t8 t9 t10 t11 x x1 x2 out out1 out2 b0 r0
        else
          spec_l04Shape k t6 t7 t8 t9 t10 t11 i 1 fun v7 v8 v9 =>
          spec_l04Before k v7 v8 v9 out out1 out2 fun v10 =>
          bif v10 then
            bif decide (i = 2) then
              spec_l04Normal_l3 k (w64 (i + 1)) t6 t7 t8 t9 t10 t11 x x1 x2 v7 v8 v9 b0 r0
            else
              spec_l04Shape k t6 t7 t8 t9 t10 t11 i 2 fun v11 v12 v13 =>
              spec_l04Before k v11 v12 v13 v7 v8 v9 fun v14 =>
              bif v14 then
                spec_l04Normal_l3 k (w64 (i + 1)) t6 t7 t8 t9 t10 t11 x x1 x2 v11 v12 v13 b0 r0
              else
                spec_l04Normal_l3 k (w64 (i + 1)) t6 t7 t8 t9 t10 t11 x x1 x2 v7 v8 v9 b0 r0
          else
          bif decide (i = 2) then
            spec_l04Normal_l3 k (w64 (i + 1)) t6 t7 t8 t9 t10 t11 x x1 x2 out out1 out2 b0 r0
          else
            spec_l04Shape k t6 t7 t8 t9 t10 t11 i 2 fun v15 v16 v17 =>
            spec_l04Before k v15 v16 v17 out out1 out2 fun v18 =>
            bif v18 then
              spec_l04Normal_l3 k (w64 (i + 1)) t6 t7 t8 t9 t10 t11 x x1 x2 v15 v16 v17 b0 r0
            else
              spec_l04Normal_l3 k (w64 (i + 1)) t6 t7 t8 t9 t10 t11 x x1 x2 out out1 out2 b0 r0
      else
        spec_l04Shape k t6 t7 t8 t9 t10 t11 i 0 fun v19 v20 v21 =>
        spec_l04Before k v19 v20 v21 out out1 out2 fun v22 =>
        bif v22 then
          bif decide (i = 1) then
            bif decide (i = 2) then
              spec_l04Normal_l3 k (w64 (i + 1)) t6 t7 t8 t9 t10 t11 x x1 x2 v19 v20 v21 b0 r0
            else
              spec_l04Shape k t6 t7 t8 t9 t10 t11 i 2 fun v23 v24 v25 =>
              spec_l04Before k v23 v24 v25 v19 v20 v21 fun v26 =>
              bif v26 then
                spec_l04Normal_l3 k (w64 (i + 1)) t6 t7 t8 t9 t10 t11 x x1 x2 v23 v24 v25 b0 r0
              else
                spec_l04Normal_l3 k (w64 (i + 1)) t6 t7 t8 t9 t10 t11 x x1 x2 v19 v20 v21 b0 r0
          else
            spec_l04Shape k t6 t7 t8 t9 t10 t11 i 1 fun v27 v28 v29 =>
            spec_l04Before k v27 v28 v29 v19 v20 v21 fun v30 =>
            bif v30 then
              bif decide (i = 2) then
                spec_l04Normal_l3 k (w64 (i + 1)) t6 t7 t8 t9 t10 t11 x x1 x2 v27 v28 v29 b0 r0
              else
                spec_l04Shape k t6 t7 t8 t9 t10 t11 i 2 fun v31 v32 v33 =>
                spec_l04Before k v31 v32 v33 v27 v28 v29 fun v34 =>
                bif v34 then
                  spec_l04Normal_l3 k (w64 (i + 1)) t6 t7 t8 t9 t10 t11 x x1 x2 v31 v32 v33 b0 r0
                else
                  spec_l04Normal_l3 k (w64 (i + 1)) t6 t7 t8 t9 t10 t11 x x1 x2 v27 v28 v29 b0 r0
            else
            bif decide (i = 2) then
              spec_l04Normal_l3 k (w64 (i + 1)) t6 t7 t8 t9 t10 t11 x x1 x2 v19 v20 v21 b0 r0
            else
              spec_l04Shape k t6 t7 t8 t9 t10 t11 i 2 fun v35 v36 v37 =>
              spec_l04Before k v35 v36 v37 v19 v20 v21 fun v38 =>
              bif v38 then
                spec_l04Normal_l3 k (w64 (i + 1)) t6 t7 t8 t9 t10 t11 x x1 x2 v35 v36 v37 b0 r0
              else
                spec_l04Normal_l3 k (w64 (i + 1)) t6 t7 t8 t9 t10 t11 x x1 x2 v19 v20 v21 b0 r0
        else
        bif decide (i = 1) then
          bif decide (i = 2) then
            spec_l04Normal_l3 k (w64 (i + 1)) t6 t7 t8 t9 t10 t11 x x1 x2 out out1 out2 b0 r0
          else
            spec_l04Shape k t6 t7 t8 t9 t10 t11 i 2 fun v39 v40 v41 =>
            spec_l04Before k v39 v40 v41 out out1 out2 fun v42 =>
            bif v42 then
              spec_l04Normal_l3 k (w64 (i + 1)) t6 t7 t8 t9 t10 t11 x x1 x2 v39 v40 v41 b0 r0
            else
              spec_l04Normal_l3 k (w64 (i + 1)) t6 t7 t8 t9 t10 t11 x x1 x2 out out1 out2 b0 r0
        else
          spec_l04Shape k t6 t7 t8 t9 t10 t11 i 1 fun v43 v44 v45 =>
          spec_l04Before k v43 v44 v45 out out1 out2 fun v46 =>
          bif v46 then
            bif decide (i = 2) then
              spec_l04Normal_l3 k (w64 (i + 1)) t6 t7 t8 t9 t10 t11 x x1 x2 v43 v44 v45 b0 r0
            else
              spec_l04Shape k t6 t7 t8 t9 t10 t11 i 2 fun v47 v48 v49 =>
              spec_l04Before k v47 v48 v49 v43 v44 v45 fun v50 =>
              bif v50 then
                spec_l04Normal_l3 k (w64 (i + 1)) t6 t7 t8 t9 t10 t11 x x1 x2 v47 v48 v49 b0 r0
              else
                spec_l04Normal_l3 k (w64 (i + 1)) t6 t7 t8 t9 t10 t11 x x1 x2 v43 v44 v45 b0 r0
          else
          bif decide (i = 2) then
            spec_l04Normal_l3 k (w64 (i + 1)) t6 t7 t8 t9 t10 t11 x x1 x2 out out1 out2 b0 r0
          else
            spec_l04Shape k t6 t7 t8 t9 t10 t11 i 2 fun v51 v52 v53 =>
            spec_l04Before k v51 v52 v53 out out1 out2 fun v54 =>
            bif v54 then
              spec_l04Normal_l3 k (w64 (i + 1)) t6 t7 t8 t9 t10 t11 x x1 x2 v51 v52 v53 b0 r0
            else
              spec_l04Normal_l3 k (w64 (i + 1)) t6 t7 t8 t9 t10 t11 x x1 x2 out out1 out2 b0 r0
    else
      b0 i t6 t7 t8 t9 t10 t11 x x1 x2 out out1 out2

/-- loop.example/g01297/spec.l04Normal -/
def spec_l04Normal {α : Type} (k : Nat) (t : Int) (t1 : Int) (t2 : Int) (t3 : Int) (t4 : Int) (t5 : Int) (r0 : Int → Int → Int → Option α) : Option α :=
  spec_l04Shape k t t1 t2 t3 t4 t5 0 1 fun v v1 v2 =>
  spec_l04Normal_l3 k 0 t t1 t2 t3 t4 t5 0 0 0 v v1 v2
    (fun _ _ _ _ _ _ _ _ _ _ out3 out4 out5 =>
      r0 out3 out4 out5)
    r0

def spec_TrianglesOfArea_l9 {α : Type} : Nat → Int → Int → Int → (List (Int × Int × Int)) → (Int → Int → Int → (List (Int × Int × Int)) → Option α) → (Int → Option α) → ((List (Int × Int × Int)) → Int → Option α) → Option α
  | 0, _, _, _, _, _, _, _ => none
  | k + 1, n_2, length1, x, out1, b2, r0, r1 =>
    bif decide (length1 = 0) then
      none
    else
    bif decide (x < (w64 (Int.tdiv n_2 length1))) then
      bif decide (length1 = 0) then
        none
      else
        spec_l04Of k length1 x (w64 (Int.tdiv n_2 length1)) fun v1 v2 v3 v4 v5 v6 =>
        spec_l04Normal k v1 v2 v3 v4 v5 v6 fun v7 v8 v9 =>
        bif (decide (v7 = length1) && (decide (v8 = x) && decide (v9 = (w64 (Int.tdiv n_2 length1))))) then
          bif decide (((List.length out1) + 1) ≤ big) then
            spec_TrianglesOfArea_l9 k n_2 length1 (w64 (x + 1)) (out1 ++ [(length1, x, (w64 (Int.tdiv n_2 length1)))]) b2 r0 r1
          else
            none
        else
          spec_TrianglesOfArea_l9 k n_2 length1 (w64 (x + 1)) out1 b2 r0 r1
    else
      b2 n_2 length1 x out1

def spec_TrianglesOfArea_l5 {α : Type} : Nat → Int → Int → (List (Int × Int × Int)) → (Int → Int → (List (Int × Int × Int)) → Option α) → (Int → Option α) → ((List (Int × Int × Int)) → Int → Option α) → Option α
  | 0, _, _, _, _, _, _ => none
  | k + 1, n_1, length, out, b0, r0, r1 =>
    bif decide (length ≤ n_1) then
      bif decide (length = 0) then
        none
      else
      bif (!decide ((Int.tmod n_1 length) = 0)) then
        spec_TrianglesOfArea_l5 k n_1 (w64 (length + 1)) out b0 r0 r1
      else
        spec_TrianglesOfArea_l9 k n_1 length 0 out
          (fun n_3 length2 _ out2 =>
            spec_TrianglesOfArea_l5 k n_3 (w64 (length2 + 1)) out2 b0 r0 r1)
          r0 r1
    else
      b0 n_1 length out

/-- loop.example/g01297/spec.TrianglesOfArea -/
def spec_TrianglesOfArea {α : Type} (k : Nat) (n_ : Int) (r0 : Int → Option α) (r1 : (List (Int × Int × Int)) → Int → Option α) : Option α :=
  spec_l01In k n_ 1 200 fun v =>
  bif (!v) then
    r0 2
  else
    spec_TrianglesOfArea_l5 k n_ 1 []
      (fun _ _ out3 =>
        r1 out3 0)
      r0 r1

/-- loop.example/g01297/impl.in -/
def impl_in {α : Type} (k : Nat) (n_ : Int) (low : Int) (high : Int) (r0 : Bool → Option α) : Option α :=
  bif decide (low ≤ n_) then
    r0 (decide (n_ ≤ high))
  else
    r0 false

/-- (loop.example/g01297/impl.Shape).triangle -/
def impl_Shape_triangle {α : Type} (k : Nat) (x : Int) (x1 : Int) (x2 : Int) (r0 : Int → Int → Int → Int → Int → Int → Option α) : Option α :=
  r0 0 0 x 0 x1 x2

/-- (loop.example/g01297/impl.Point).plus -/
def impl_Point_plus {α : Type} (k : Nat) (a : Int) (a1 : Int) (b_ : Int) (b_1 : Int) (k_ : Int) (r0 : Int → Int → Option α) : Option α :=
  r0 (w64 (a + (w64 (k_ * b_)))) (w64 (a1 + (w64 (k_ * b_1))))

/-- (loop.example/g01297/impl.Point).less -/
def impl_Point_less {α : Type} (k : Nat) (a : Int) (a1 : Int) (b_ : Int) (b_1 : Int) (r0 : Int → Int → Option α) : Option α :=
  impl_Point_plus k a a1 b_ b_1 (-1) fun v v1 =>
  r0 v v1

/-- (loop.example/g01297/impl.Triangle).side -/
def impl_Triangle_side {α : Type} (k : Nat) (t : Int) (t1 : Int) (t2 : Int) (t3 : Int) (t4 : Int) (t5 : Int) (i : Int) (k_ : Int) (r0 : Int → Int → Option α) : Option α :=
  bif (decide (0 ≤ k_) && decide (k_ < 3)) then
    ([t, t1, t2, t3, t4, t5][(k_.toNat * 2)]?).bind fun e_ =>
    ([t, t1, t2, t3, t4, t5][((k_.toNat * 2) + 1)]?).bind fun e_1 =>
    bif (decide (0 ≤ i) && decide (i < 3)) then
      ([t, t1, t2, t3, t4, t5][(i.toNat * 2)]?).bind fun e_2 =>
      ([t, t1, t2, t3, t4, t5][((i.toNat * 2) + 1)]?).bind fun e_3 =>
      impl_Point_less k e_ e_1 e_2 e_3 fun v v1 =>
      r0 v v1
    else
      none
  else
    none

/-- loop.example/g01297/impl.size -/
def impl_size {α : Type} (k : Nat) (n_ : Int) (r0 : Int → Option α) : Option α :=
  r0 (max n_ (w64 (0 - n_)))

def impl_gcd_l1 {α : Type} : Nat → Int → Int → (Int → Int → Option α) → (Int → Option α) → Option α
  | 0, _, _, _, _ => none
  | k + 1, a1, b_1, b0, r0 =>
    bif (!decide (b_1 = 0)) then
      bif decide (b_1 = 0) then
        none
      else
        impl_gcd_l1 k b_1 (Int.tmod a1 b_1) b0 r0
    else
      b0 a1 b_1

/-- loop.example/g01297/impl.gcd -/
def impl_gcd {α : Type} (k : Nat) (a : Int) (b_ : Int) (r0 : Int → Option α) : Option α :=
  impl_gcd_l1 k a b_
    (fun a2 _ =>
      impl_size k a2 fun v =>
      r0 v)
    r0

/-- (loop.example/g01297/impl.Point).length -/
def impl_Point_length {α : Type} (k : Nat) (a : Int) (a1 : Int) (r0 : Int → Option α) : Option α :=
  impl_gcd k a a1 fun v =>
  r0 v

/-- loop.example/g01297/impl.det -/
def impl_det {α : Type} (k : Nat) (a : Int) (a1 : Int) (b_ : Int) (b_1 : Int) (r0 : Int → Option α) : Option α :=
  r0 (w64 ((w64 (a * b_1)) - (w64 (a1 * b_))))

/-- loop.example/g01297/impl.area -/
def impl_area {α : Type} (k : Nat) (a : Int) (a1 : Int) (b_ : Int) (b_1 : Int) (c : Int) (c1 : Int) (r0 : Int → Option α) : Option α :=
  impl_Point_less k b_ b_1 a a1 fun v v1 =>
  impl_Point_less k c c1 a a1 fun v2 v3 =>
  impl_det k v v1 v2 v3 fun v4 =>
  impl_size k v4 fun v5 =>
  r0 v5

/-- (loop.example/g01297/impl.Triangle).area -/
def impl_Triangle_area {α : Type} (k : Nat) (t : Int) (t1 : Int) (t2 : Int) (t3 : Int) (t4 : Int) (t5 : Int) (r0 : Int → Option α) : Option α :=
  impl_area k t t1 t2 t3 t4 t5 fun v =>
  r0 v

/-- (loop.example/g01297/impl.Point).primitive -/
def impl_Point_primitive {α : Type} (k : Nat) (a : Int) (a1 : Int) (r0 : Int → Int → Option α) : Option α :=
  impl_Point_length k a a1 fun v =>
  bif decide (v = 0) then
    none
  else
  bif decide (v = 0) then
    none
  else
    r0 (w64 (Int.tdiv a v)) (w64 (Int.tdiv a1 v))

/-- loop.example/g01297/impl.floor -/
def impl_floor {α : Type} (k : Nat) (a : Int) (b_ : Int) (r0 : Int → Option α) : Option α :=
  bif decide (b_ = 0) then
    none
  else
  bif decide (b_ = 0) then
    none
  else
  bif (!decide ((Int.tmod a b_) = 0)) then
    bif (!(decide (a < 0) == decide (b_ < 0))) then
      r0 (w64 ((w64 (Int.tdiv a b_)) - 1))
    else
      r0 (w64 (Int.tdiv a b_))
  else
    r0 (w64 (Int.tdiv a b_))

/-- loop.example/g01297/impl.mod -/
def impl_mod {α : Type} (k : Nat) (a : Int) (b_ : Int) (r0 : Int → Option α) : Option α :=
  impl_floor k a b_ fun v =>
  r0 (w64 (a - (w64 (b_ * v))))

def impl_bezout_l2 {α : Type} : Nat → Int → Int → Int → Int → Int → (Int → Int → Int → Int → Int → Option α) → (Int → Option α) → Option α
  | 0, _, _, _, _, _, _, _ => none
  | k + 1, m1, r_, s, x, y, b0, r0 =>
    bif (!decide (s = 0)) then
      bif decide (s = 0) then
        none
      else
        impl_bezout_l2 k m1 s (w64 (r_ - (w64 ((w64 (Int.tdiv r_ s)) * s)))) y (w64 (x - (w64 ((w64 (Int.tdiv r_ s)) * y)))) b0 r0
    else
      b0 m1 r_ s x y

/-- loop.example/g01297/impl.bezout -/
def impl_bezout {α : Type} (k : Nat) (a : Int) (m : Int) (r0 : Int → Option α) : Option α :=
  impl_mod k a m fun v =>
  impl_bezout_l2 k m v m 1 0
    (fun m2 _ _ x1 _ =>
      impl_mod k x1 m2 fun v1 =>
      r0 v1)
    r0

/-- (loop.example/g01297/impl.Point).mate -/
def impl_Point_mate {α : Type} (k : Nat) (a : Int) (a1 : Int) (r0 : Int → Int → Option α) : Option α :=
  bif decide (a = 0) then
    r0 (w64 (0 - a1)) 0
  else
    impl_size k a fun v =>
    impl_bezout k a1 v fun v1 =>
    impl_size k a fun v2 =>
    impl_mod k (w64 (0 - v1)) v2 fun v3 =>
    bif decide (a = 0) then
      none
    else
      r0 v3 (w64 (Int.tdiv (w64 (1 + (w64 (a1 * v3)))) a))

/-- (loop.example/g01297/impl.Triangle).shape -/
def impl_Triangle_shape {α : Type} (k : Nat) (t : Int) (t1 : Int) (t2 : Int) (t3 : Int) (t4 : Int) (t5 : Int) (i : Int) (j : Int) (r0 : Int → Int → Int → Option α) : Option α :=
  impl_Triangle_side k t t1 t2 t3 t4 t5 i j fun v v1 =>
  impl_Triangle_side k t t1 t2 t3 t4 t5 i (w64 ((w64 (3 - i)) - j)) fun v2 v3 =>
  impl_Point_length k v v1 fun v4 =>
  impl_Triangle_area k t t1 t2 t3 t4 t5 fun v5 =>
  bif decide (v4 = 0) then
    none
  else
    impl_Point_primitive k v v1 fun v6 v7 =>
    impl_Point_mate k v6 v7 fun v8 v9 =>
    impl_det k v2 v3 v8 v9 fun v10 =>
    impl_mod k v10 (w64 (Int.tdiv v5 v4)) fun v11 =>
    r0 v4 v11 (w64 (Int.tdiv v5 v4))

/-- cmp.isNaN[int64] -/
def cmp_isNaN_int64 {α : Type} (k : Nat) (x : Int) (r0 : Bool → Option α) : Option α :=
  r0 (!decide (x = x))

/-- cmp.Compare[int64] -/
def cmp_Compare_int64 {α : Type} (k : Nat) (x : Int) (y : Int) (r0 : Int → Option α) : Option α :=
  cmp_isNaN_int64 k x fun v =>
  cmp_isNaN_int64 k y fun v1 =>
  bif v then
    bif v1 then
      r0 0
    else
      r0 (-1)
  else
  bif v1 then
    r0 1
  else
  bif decide (x < y) then
    r0 (-1)
  else
  bif decide (y < x) then
    r0 1
  else
    r0 0

def cmp_Or_int_l3 {α : Type} : Nat → Int → Int → Int → List Int → (Int → Int → Int → List Int → Option α) → (Int → Option α) → Option α
  | 0, _, _, _, _, _, _ => none
  | k + 1, zero, x, x1, x2, b0, r0 =>
    bif decide (x1 < x) then
      bif (decide (0 ≤ x1) && decide (x1 < (((List.length x2) : Nat) : Int))) then
        (x2[x1.toNat]?).bind fun e_ =>
        bif (!decide (e_ = zero)) then
          r0 e_
        else
          cmp_Or_int_l3 k zero x (w64 (x1 + 1)) x2 b0 r0
      else
        none
    else
      b0 zero x x1 x2

/-- cmp.Or[int] -/
def cmp_Or_int {α : Type} (k : Nat) (vals : List Int) (r0 : Int → Option α) : Option α :=
  cmp_Or_int_l3 k 0 (((List.length vals) : Nat) : Int) 0 vals
    (fun zero1 _ _ _ =>
      r0 zero1)
    r0

/-- loop.example/g01297/impl.shapeOrder -/
def impl_shapeOrder {α : Type} (k : Nat) (a : Int) (a1 : Int) (a2 : Int) (b_ : Int) (b_1 : Int) (b_2 : Int) (r0 : Int → Option α) : Option α :=
  cmp_Compare_int64 k a b_ fun v =>
  cmp_Compare_int64 k a1 b_1 fun v1 =>
  cmp_Compare_int64 k a2 b_2 fun v2 =>
  cmp_Or_int k [v, v1, v2] fun v3 =>
  r0 v3

def impl_Triangle_normal_l3 {α : Type} : Nat → Int → Int → Int → Int → Int → Int → Int → Int → Int → Int → Int → Int → Int → (Int → Int → Int → Int → Int → Int → Int → Int → Int → Int → Int → Int → Int → Option α) → (Int → Int → Int → Option α) → Option α
  | 0, _, _, _, _, _, _, _, _, _, _, _, _, _, _, _ => none
  | k + 1, x, t6, t7, t8, t9, t10, t11, x1, x2, x3, out, out1, out2, b0, r0 =>
    bif decide (x < 3) then
      bif (!decide (x = 0)) then
        impl_Triangle_shape k t6 t7 t8 t9 t10 t11 x 0 fun v3 v4 v5 =>
        impl_shapeOrder k v3 v4 v5 out out1 out2 fun v6 =>
        bif decide (v6 < 0) then
          impl_Triangle_shape k t6 t7 t8 t9 t10 t11 x 0 fun v7 v8 v9 =>
          bif (!decide (x = 1)) then
            impl_Triangle_shape k t6 t7 t8 t9 t10 t11 x 1 fun v10 v11 v12 =>
            impl_shapeOrder k v10 v11 v12 v7 v8 v9 fun v13 =>
            bif decide (v13 < 0) then
              impl_Triangle_shape k t6 t7 t8 t9 t10 t11 x 1 fun v14 v15 v16 =>
              bif (!decide (x = 2)) then
                impl_Triangle_shape k t6 t7 t8 t9 t10 t11 x 2 fun v17 v18 v19 =>
                impl_shapeOrder k v17 v18 v19 v14 v15 v16 fun v20 =>
                bif decide (v20 < 0) then
                  impl_Triangle_shape k t6 t7 t8 t9 t10 t11 x 2 fun v21 v22 v23 =>
                  impl_Triangle_normal_l3 k (w64 (x + 1)) t6 t7 t8 t9 t10 t11 x1 x2 x3 v21 v22 v23 b0 r0
                else
                  impl_Triangle_normal_l3 k (w64 (x + 1)) t6 t7 t8 t9 t10 t11 x1 x2 x3 v14 v15 v16 b0 r0
              else
                impl_Triangle_normal_l3 k (w64 (x + 1)) t6 t7 t8 t9 t10 t11 x1 x2 x3 v14 v15 v16 b0 r0
            else
            bif (!decide (x = 2)) then
              impl_Triangle_shape k t6 t7 t8 t9 t10 t11 x 2 fun v24 v25 v26 =>
              impl_shapeOrder k v24 v25 v26 v7 v8 v9 fun v27 =>
              bif decide (v27 < 0) then
                impl_Triangle_shape k t6 t7 t8 t9 t10 t11 x 2 fun v28 v29 v30 =>
                impl_Triangle_normal_l3 k (w64 (x + 1)) t6 t7 t8 t9 t10 t11 x1 x2 x3 v28 v29 v30 b0 r0
              else
                impl_Triangle_normal_l3 k (w64 (x + 1)) t6 t7 t8 t9 t10 t11 x1 x2 x3 v7 v8 v9 b0 r0
            else
              impl_Triangle_normal_l3 k (w64 (x + 1)) t6 t7 t8 t9 t10 t11 x1 x2 x3 v7 v8 v9 b0 r0
          else
          bif (!decide (x = 2)) then
            impl_Triangle_shape k t6 t7 t8 t9 t10 t11 x 2 fun v31 v32 v33 =>
            impl_shapeOrder k v31 v32 v33 v7 v8 v9 fun v34 =>
            bif decide (v34 < 0) then
              impl_Triangle_shape k t6 t7 t8 t9 t10 t11 x 2 fun v35 v36 v37 =>
              impl_Triangle_normal_l3 k (w64 (x + 1)) t6 t7 t8 t9 t10 t11 x1 x2 x3 v35 v36 v37 b0 r0
            else
              impl_Triangle_normal_l3 k (w64 (x + 1)) t6 t7 t8 t9 t10 t11 x1 x2 x3 v7 v8 v9 b0 r0
          else
            impl_Triangle_normal_l3 k (w64 (x + 1)) t6 t7 t8 t9 t10 t11 x1 x2 x3 v7 v8 v9 b0 r0
        else
        bif (!decide (x = 1)) then
          impl_Triangle_shape k t6 t7 t8 t9 t10 t11 x 1 fun v38 v39 v40 =>
          impl_shapeOrder k v38 v39 v40 out out1 out2 fun v41 =>
          bif decide (v41 < 0) then
            impl_Triangle_shape k t6 t7 t8 t9 t10 t11 x 1 fun v42 v43 v44 =>
            bif (!decide (x = 2)) then
              impl_Triangle_shape k t6 t7 t8 t9 t10 t11 x 2 fun v45 v46 v47 =>
              impl_shapeOrder k v45 v46 v47 v42 v43 v44 fun v48 =>
              bif decide (v48 < 0) then
                impl_Triangle_shape k t6 t7 t8 t9 t10 t11 x 2 fun v49 v50 v51 =>
                impl_Triangle_normal_l3 k (w64 (x + 1)) t6 t7 t8 t9 t10 t11 x1 x2 x3 v49 v50 v51 b0 r0
              else
                impl_Triangle_normal_l3 k (w64 (x + 1)) t6 t7 t8 t9 t10 t11 x1 x2 x3 v42 v43 v44 b0 r0
            else
              impl_Triangle_normal_l3 k (w64 (x + 1)) t6 t7 t8 t9 t10 t11 x1 x2 x3 v42 v43 v44 b0 r0
          else
          bif (!decide (x = 2)) then
            impl_Triangle_shape k t6 t7 t8 t9 t10 t11 x 2 fun v52 v53 v54 =>
            impl_shapeOrder k v52 v53 v54 out out1 out2 fun v55 =>
            bif decide (v55 < 0) then
              impl_Triangle_shape k t6 t7 t8 t9 t10 t11 x 2 fun v56 v57 v58 =>
              impl_Triangle_normal_l3 k (w64 (x + 1)) t6 t7 t8 t9 t10 t11 x1 x2 x3 v56 v57 v58 b0 r0
            else
              impl_Triangle_normal_l3 k (w64 (x + 1)) t6 t7 t8 t9 t10 t11 x1 x2 x3 out out1 out2 b0 r0
          else
            impl_Triangle_normal_l3 k (w64 (x + 1)) t6 t7 t8 t9 t10 t11 x1 x2 x3 out out1 out2 b0 r0
        else
        bif (!decide (x = 2)) then
          impl_Triangle_shape k t6 t7 t8 t9 t10 t11 x 2 fun v59 v60 v61 =>
          impl_shapeOrder k v59 v60 v61 out out1 out2 fun v62 =>
          bif decide (v62 < 0) then
            impl_Triangle_shape k t6 t7 t8 t9 t10 t11 x 2 fun v63 v64 v65 =>
            impl_Triangle_normal_l3 k (w64 (x + 1)) t6 t7 t8 t9 t10 t11 x1 x2 x3 v63 v64 v65 b0 r0
          else
            impl_Triangle_normal_l3 k (w64 (x + 1)) t6 t7 t8 t9 t10 t11 x1 x2 x3 out out1 out2 b0 r0
        else
          impl_Triangle_normal_l3 k (w64 (x + 1)) t6 t7 t8 t9 t10 t11 x1 x2 x3 out out1 out2 b0 r0
      else
      bif (!decide (x = 1)) then
        impl_Triangle_shape k t6 t7 t8 t9 t10 t11 x 1 fun v66 v67 v68 =>
        impl_shapeOrder k v66 v67 v68 out out1 out2 fun v69 =>
        bif decide (v69 < 0) then
          impl_Triangle_shape k t6 t7 t8 t9 t10 t11 x 1 fun v70 v71 v72 =>
          bif (!decide (x = 2)) then
            impl_Triangle_shape k t6 t7 t8 t9 t10 t11 x 2 fun v73 v74 v75 =>
            impl_shapeOrder k v73 v74 v75 v70 v71 v72 fun v76 =>
            bif decide (v76 < 0) then
              impl_Triangle_shape k t6 t7 t8 t9 t10 t11 x 2 fun v77 v78 v79 =>
              impl_Triangle_normal_l3 k (w64 (x + 1)) t6 t7 t8 t9 t10 t11 x1 x2 x3 v77 v78 v79 b0 r0
            else
              impl_Triangle_normal_l3 k (w64 (x + 1)) t6 t7 t8 t9 t10 t11 x1 x2 x3 v70 v71 v72 b0 r0
          else
            impl_Triangle_normal_l3 k (w64 (x + 1)) t6 t7 t8 t9 t10 t11 x1 x2 x3 v70 v71 v72 b0 r0
        else
        bif (!decide (x = 2)) then
          impl_Triangle_shape k t6 t7 t8 t9 t10 t11 x 2 fun v80 v81 v82 =>
          impl_shapeOrder k v80 v81 v82 out out1 out2 fun v83 =>
          bif decide (v83 < 0) then
            impl_Triangle_shape k t6 t7 t8 t9 t10 t11 x 2 fun v84 v85 v86 =>
            impl_Triangle_normal_l3 k (w64 (x + 1)) t6 t7 t8 t9 t10 t11 x1 x2 x3 v84 v85 v86 b0 r0
          else
            impl_Triangle_normal_l3 k (w64 (x + 1)) t6 t7 t8 t9 t10 t11 x1 x2 x3 out out1 out2 b0 r0
        else
          impl_Triangle_normal_l3 k (w64 (x + 1)) t6 t7 t8 t9 t10 t11 x1 x2 x3 out out1 out2 b0 r0
      else
      bif (!decide (x = 2)) then
        impl_Triangle_shape k t6 t7 t8 t9 t10 t11 x 2 fun v87 v88 v89 =>
        impl_shapeOrder k v87 v88 v89 out out1 out2 fun v90 =>
        bif decide (v90 < 0) then
          impl_Triangle_shape k t6 t7 t8 t9 t10 t11 x 2 fun v91 v92 v93 =>
          impl_Triangle_normal_l3 k (w64 (x + 1)) t6 t7 t8 t9 t10 t11 x1 x2 x3 v91 v92 v93 b0 r0
        else
          impl_Triangle_normal_l3 k (w64 (x + 1)) t6 t7 t8 t9 t10 t11 x1 x2 x3 out out1 out2 b0 r0
      else
        impl_Triangle_normal_l3 k (w64 (x + 1)) t6 t7 t8 t9 t10 t11 x1 x2 x3 out out1 out2 b0 r0
    else
      b0 x t6 t7 t8 t9 t10 t11 x1 x2 x3 out out1 out2

/-- (loop.example/g01297/impl.Triangle).normal -/
def impl_Triangle_normal {α : Type} (k : Nat) (t : Int) (t1 : Int) (t2 : Int) (t3 : Int) (t4 : Int) (t5 : Int) (r0 : Int → Int → Int → Option α) : Option α :=
  impl_Triangle_shape k t t1 t2 t3 t4 t5 0 1 fun v v1 v2 =>
  impl_Triangle_normal_l3 k 0 t t1 t2 t3 t4 t5 0 0 0 v v1 v2
    (fun _ _ _ _ _ _ _ _ _ _ out3 out4 out5 =>
      r0 out3 out4 out5)
    r0

/-- slices.SortFunc[[]loop.example/g01297/impl.Shape,loop.example/g01297/impl.Shape]: as the shelf has it -/
noncomputable def slices_SortFunc_impl_Shape_impl_Shape_1F_impl_shapeOrder {α : Type} (k : Nat) (x : List (Int × Int × Int)) (r0 : (List (Int × Int × Int)) → Option α) : Option α := sortK (fun (p q : Int × Int × Int) => impl_shapeOrder k p.1 p.2.1 p.2.2 q.1 q.2.1 q.2.2) x r0

def slices_Compact_impl_Shape_impl_Shape_l9 {α : Type} : Nat → Int → Nat → Nat → Int → (List (Int × Int × Int)) → (Int → Nat → Nat → Int → (List (Int × Int × Int)) → Option α) → ((List (Int × Int × Int)) → Option α) → Option α
  | 0, _, _, _, _, _, _, _ => none
  | k + 1, k_1, s2_, s2_1, k2_, s2, b2, r0 =>
    bif decide (k2_ < ((s2_1 : Nat) : Int)) then
      bif (decide (0 ≤ k2_) && decide (k2_ < ((s2_1 : Nat) : Int))) then
        (s2[(moved s2_ k2_.toNat 1)]?).bind fun e_2 =>
        bif (decide (0 ≤ (w64 (k2_ - 1))) && decide ((w64 (k2_ - 1)) < ((s2_1 : Nat) : Int))) then
          (s2[(moved s2_ ((w64 (k2_ - 1)).toNat) 1)]?).bind fun e_3 =>
          bif (!(decide (e_2.1 = e_3.1) && (decide (e_2.2.1 = e_3.2.1) && decide (e_2.2.2 = e_3.2.2)))) then
            bif (decide (0 ≤ k2_) && decide (k2_ < ((s2_1 : Nat) : Int))) then
              (s2[(moved s2_ k2_.toNat 1)]?).bind fun e_4 =>
              bif (decide (0 ≤ k_1) && decide (k_1 < (((List.length s2) : Nat) : Int))) then
                (s2[k_1.toNat]?).bind fun _ =>
                slices_Compact_impl_Shape_impl_Shape_l9 k (w64 (k_1 + 1)) s2_ s2_1 (w64 (k2_ + 1)) (List.set s2 k_1.toNat (e_4.1, e_4.2.1, e_4.2.2)) b2 r0
              else
                none
            else
              none
          else
            slices_Compact_impl_Shape_impl_Shape_l9 k k_1 s2_ s2_1 (w64 (k2_ + 1)) s2 b2 r0
        else
          none
      else
        none
    else
      b2 k_1 s2_ s2_1 k2_ s2

def slices_Compact_impl_Shape_impl_Shape_l4 {α : Type} : Nat → Int → (List (Int × Int × Int)) → (Int → (List (Int × Int × Int)) → Option α) → ((List (Int × Int × Int)) → Option α) → Option α
  | 0, _, _, _, _ => none
  | k + 1, k_, s1, b0, r0 =>
    bif decide (k_ < (((List.length s1) : Nat) : Int)) then
      bif (decide (0 ≤ k_) && decide (k_ < (((List.length s1) : Nat) : Int))) then
        (s1[k_.toNat]?).bind fun e_ =>
        bif (decide (0 ≤ (w64 (k_ - 1))) && decide ((w64 (k_ - 1)) < (((List.length s1) : Nat) : Int))) then
          (s1[(w64 (k_ - 1)).toNat]?).bind fun e_1 =>
          bif (decide (e_.1 = e_1.1) && (decide (e_.2.1 = e_1.2.1) && decide (e_.2.2 = e_1.2.2))) then
            bif (decide (0 ≤ k_) && decide (k_ ≤ (((List.length s1) : Nat) : Int))) then
              slices_Compact_impl_Shape_impl_Shape_l9 k k_ k_.toNat ((List.length s1) - k_.toNat) 1 s1
                (fun k_2 _ _ _ s3 =>
                  bif (decide (0 ≤ k_2) && decide (k_2 ≤ (((List.length s3) : Nat) : Int))) then
                    bif (decide (0 ≤ k_2) && decide (k_2 ≤ (((List.length (((List.take k_2.toNat s3) ++ (List.replicate ((List.length s3) - k_2.toNat) (0, 0, 0))) ++ (List.drop (k_2.toNat + ((List.length s3) - k_2.toNat)) s3))) : Nat) : Int))) then
                      r0 (List.take (k_2.toNat - 0) (((List.take k_2.toNat s3) ++ (List.replicate ((List.length s3) - k_2.toNat) (0, 0, 0))) ++ (List.drop (k_2.toNat + ((List.length s3) - k_2.toNat)) s3)))
                    else
                      none
                  else
                    none)
                r0
            else
              none
          else
            slices_Compact_impl_Shape_impl_Shape_l4 k (w64 (k_ + 1)) s1 b0 r0
        else
          none
      else
        none
    else
      b0 k_ s1

/-- slices.Compact[[]loop.example/g01297/impl.Shape,loop.example/g01297/impl.Shape] -/
def slices_Compact_impl_Shape_impl_Shape {α : Type} (k : Nat) (s : List (Int × Int × Int)) (r0 : (List (Int × Int × Int)) → Option α) : Option α :=
  bif decide ((((List.length s) : Nat) : Int) < 2) then
    r0 s
  else
    slices_Compact_impl_Shape_impl_Shape_l4 k 1 s
      (fun _ s4 =>
        r0 s4)
      r0

noncomputable def impl_TrianglesOfArea_l9 {α : Type} : Nat → Int → Int → Int → Int → (List (Int × Int × Int)) → (Int → Int → Int → Int → (List (Int × Int × Int)) → Option α) → (Int → Option α) → ((List (Int × Int × Int)) → Int → Option α) → Option α
  | 0, _, _, _, _, _, _, _, _ => none
  | k + 1, n_2, long1, x, x1, out1, b2, r0, r1 =>
    bif decide (x1 < x) then
      bif decide (long1 = 0) then
        none
      else
        impl_Shape_triangle k long1 x1 (w64 (Int.tdiv n_2 long1)) fun v1 v2 v3 v4 v5 v6 =>
        impl_Triangle_normal k v1 v2 v3 v4 v5 v6 fun v7 v8 v9 =>
        bif decide (((List.length out1) + 1) ≤ big) then
          impl_TrianglesOfArea_l9 k n_2 long1 x (w64 (x1 + 1)) (out1 ++ [(v7, v8, v9)]) b2 r0 r1
        else
          none
    else
      b2 n_2 long1 x x1 out1

noncomputable def impl_TrianglesOfArea_l5 {α : Type} : Nat → Int → Int → (List (Int × Int × Int)) → (Int → Int → (List (Int × Int × Int)) → Option α) → (Int → Option α) → ((List (Int × Int × Int)) → Int → Option α) → Option α
  | 0, _, _, _, _, _, _ => none
  | k + 1, n_1, long, out, b0, r0, r1 =>
    bif decide (long ≤ n_1) then
      bif decide (long = 0) then
        none
      else
      bif (!decide ((Int.tmod n_1 long) = 0)) then
        impl_TrianglesOfArea_l5 k n_1 (w64 (long + 1)) out b0 r0 r1
      else
      bif decide (long = 0) then
        none
      else
        impl_TrianglesOfArea_l9 k n_1 long (w64 (Int.tdiv n_1 long)) 0 out
          (fun n_3 long2 _ _ out2 =>
            impl_TrianglesOfArea_l5 k n_3 (w64 (long2 + 1)) out2 b0 r0 r1)
          r0 r1
    else
      b0 n_1 long out

/-- loop.example/g01297/impl.TrianglesOfArea -/
noncomputable def impl_TrianglesOfArea {α : Type} (k : Nat) (n_ : Int) (r0 : Int → Option α) (r1 : (List (Int × Int × Int)) → Int → Option α) : Option α :=
  impl_in k n_ 1 200 fun v =>
  bif (!v) then
    r0 2
  else
    impl_TrianglesOfArea_l5 k n_ 1 []
      (fun _ _ out3 =>
        slices_SortFunc_impl_Shape_impl_Shape_1F_impl_shapeOrder k out3 fun v10 =>
        slices_Compact_impl_Shape_impl_Shape k v10 fun v11 =>
        r1 v11 0)
      r0 r1

/-- loop.example/g01297/laws.eqShapeS -/
def laws_eqShapeS_0N_1N {α : Type} (k : Nat)  (r0 : Bool → Option α) : Option α :=
  r0 true

/-- loop.example/g01297/laws.markShapeS -/
def laws_markShapeS_0N {α : Type} (k : Nat) (k_ : Int) (r0 : Int → Option α) : Option α :=
  r0 k_

/-- loop.example/g01297/laws.heldShapeS -/
def laws_heldShapeS_0N {α : Type} (k : Nat) (k_ : Int) (r0 : Int → Option α) : Option α :=
  r0 k_

def laws_eqShapeS_1N_l4 {α : Type} : Nat → Int → (List (Int × Int × Int)) → (Int → (List (Int × Int × Int)) → Option α) → (Bool → Option α) → Option α
  | 0, _, _, _, _ => none
  | k + 1, i, a1, b0, r0 =>
    bif decide (i < (((List.length a1) : Nat) : Int)) then
      bif (decide (0 ≤ i) && decide (i < (((List.length a1) : Nat) : Int))) then
        (a1[i.toNat]?).bind fun _ =>
        none
      else
        none
    else
      b0 i a1

/-- loop.example/g01297/laws.eqShapeS -/
def laws_eqShapeS_1N {α : Type} (k : Nat) (a : List (Int × Int × Int)) (r0 : Bool → Option α) : Option α :=
  bif (!decide ((((List.length a) : Nat) : Int) = 0)) then
    r0 false
  else
    laws_eqShapeS_1N_l4 k 0 a
      (fun _ _ =>
        r0 true)
      r0

def laws_markShapeS_l2 {α : Type} : Nat → Int → Int → (List (Int × Int × Int)) → (Int → Int → (List (Int × Int × Int)) → Option α) → (Int → (List (Int × Int × Int)) → Option α) → Option α
  | 0, _, _, _, _, _ => none
  | k + 1, k_1, i, a1, b0, r0 =>
    bif decide (i < (((List.length a1) : Nat) : Int)) then
      bif (decide (0 ≤ i) && decide (i < (((List.length a1) : Nat) : Int))) then
        (a1[i.toNat]?).bind fun e_ =>
        bif (decide (0 ≤ i) && decide (i < (((List.length (List.set a1 i.toNat (k_1, e_.2.1, e_.2.2))) : Nat) : Int))) then
          ((List.set a1 i.toNat (k_1, e_.2.1, e_.2.2))[i.toNat]?).bind fun e_1 =>
          bif (decide (0 ≤ i) && decide (i < (((List.length (List.set (List.set a1 i.toNat (k_1, e_.2.1, e_.2.2)) i.toNat (e_1.1, (w64 (k_1 + 1)), e_1.2.2))) : Nat) : Int))) then
            ((List.set (List.set a1 i.toNat (k_1, e_.2.1, e_.2.2)) i.toNat (e_1.1, (w64 (k_1 + 1)), e_1.2.2))[i.toNat]?).bind fun e_2 =>
            laws_markShapeS_l2 k (w64 ((w64 ((w64 (k_1 + 1)) + 1)) + 1)) (w64 (i + 1)) (List.set (List.set (List.set a1 i.toNat (k_1, e_.2.1, e_.2.2)) i.toNat (e_1.1, (w64 (k_1 + 1)), e_1.2.2)) i.toNat (e_2.1, e_2.2.1, (w64 ((w64 (k_1 + 1)) + 1)))) b0 r0
          else
            none
        else
          none
      else
        none
    else
      b0 k_1 i a1

/-- loop.example/g01297/laws.markShapeS -/
def laws_markShapeS {α : Type} (k : Nat) (a : List (Int × Int × Int)) (k_ : Int) (r0 : Int → (List (Int × Int × Int)) → Option α) : Option α :=
  laws_markShapeS_l2 k k_ 0 a
    (fun k_2 _ a2 =>
      r0 k_2 a2)
    r0

def laws_heldShapeS_l2 {α : Type} : Nat → Int → Int → (List (Int × Int × Int)) → (Int → Int → (List (Int × Int × Int)) → Option α) → (Int → Option α) → Option α
  | 0, _, _, _, _, _ => none
  | k + 1, k_1, i, a1, b0, r0 =>
    bif decide (i < (((List.length a1) : Nat) : Int)) then
      bif (decide (0 ≤ i) && decide (i < (((List.length a1) : Nat) : Int))) then
        (a1[i.toNat]?).bind fun e_ =>
        bif (!decide (e_.1 = k_1)) then
          r0 (-1)
        else
        bif (decide (0 ≤ i) && decide (i < (((List.length a1) : Nat) : Int))) then
          (a1[i.toNat]?).bind fun e_1 =>
          bif (!decide (e_1.2.1 = (w64 (k_1 + 1)))) then
            r0 (-1)
          else
          bif (decide (0 ≤ i) && decide (i < (((List.length a1) : Nat) : Int))) then
            (a1[i.toNat]?).bind fun e_2 =>
            bif (!decide (e_2.2.2 = (w64 ((w64 (k_1 + 1)) + 1)))) then
              r0 (-1)
            else
              laws_heldShapeS_l2 k (w64 ((w64 ((w64 (k_1 + 1)) + 1)) + 1)) (w64 (i + 1)) a1 b0 r0
          else
            none
        else
          none
      else
        none
    else
      b0 k_1 i a1

/-- loop.example/g01297/laws.heldShapeS -/
def laws_heldShapeS {α : Type} (k : Nat) (a : List (Int × Int × Int)) (k_ : Int) (r0 : Int → Option α) : Option α :=
  laws_heldShapeS_l2 k k_ 0 a
    (fun k_2 _ _ =>
      r0 k_2)
    r0

/-- loop.example/g01297/laws.eqShapeS -/
def laws_eqShapeS_0N {α : Type} (k : Nat) (b_ : List (Int × Int × Int)) (r0 : Bool → Option α) : Option α :=
  bif (!decide (0 = (((List.length b_) : Nat) : Int))) then
    r0 false
  else
    r0 true

/-- loop.example/g01297/laws.eqShape -/
def laws_eqShape {α : Type} (k : Nat) (a : Int) (a1 : Int) (a2 : Int) (b_ : Int) (b_1 : Int) (b_2 : Int) (r0 : Bool → Option α) : Option α :=
  bif (!decide (a = b_)) then
    r0 false
  else
  bif (!decide (a1 = b_1)) then
    r0 false
  else
  bif (!decide (a2 = b_2)) then
    r0 false
  else
    r0 true

def laws_eqShapeS_l4 {α : Type} : Nat → Int → (List (Int × Int × Int)) → (List (Int × Int × Int)) → (Int → (List (Int × Int × Int)) → (List (Int × Int × Int)) → Option α) → (Bool → Option α) → Option α
  | 0, _, _, _, _, _ => none
  | k + 1, i, a1, b_1, b0, r0 =>
    bif decide (i < (((List.length a1) : Nat) : Int)) then
      bif (decide (0 ≤ i) && decide (i < (((List.length a1) : Nat) : Int))) then
        (a1[i.toNat]?).bind fun e_ =>
        bif (decide (0 ≤ i) && decide (i < (((List.length b_1) : Nat) : Int))) then
          (b_1[i.toNat]?).bind fun e_1 =>
          laws_eqShape k e_.1 e_.2.1 e_.2.2 e_1.1 e_1.2.1 e_1.2.2 fun v =>
          bif (!v) then
            r0 false
          else
            laws_eqShapeS_l4 k (w64 (i + 1)) a1 b_1 b0 r0
        else
          none
      else
        none
    else
      b0 i a1 b_1

/-- loop.example/g01297/laws.eqShapeS -/
def laws_eqShapeS {α : Type} (k : Nat) (a : List (Int × Int × Int)) (b_ : List (Int × Int × Int)) (r0 : Bool → Option α) : Option α :=
  bif (!decide ((((List.length a) : Nat) : Int) = (((List.length b_) : Nat) : Int))) then
    r0 false
  else
    laws_eqShapeS_l4 k 0 a b_
      (fun _ _ _ =>
        r0 true)
      r0

/-- loop.example/g01297/laws.FnExactTrianglesOfArea -/
noncomputable def laws_FnExactTrianglesOfArea {α : Type} (k : Nat) (aN : Int) (r0 : Bool → Option α) : Option α :=
  spec_TrianglesOfArea k aN
    (fun v =>
      impl_TrianglesOfArea k aN
        (fun v1 =>
          laws_eqShapeS_0N_1N k fun v2 =>
          bif (!v2) then
            r0 false
          else
          bif (!decide (v1 = v)) then
            r0 false
          else
            laws_markShapeS_0N k 1 fun v3 =>
            laws_heldShapeS_0N k 1 fun v4 =>
            bif decide (v4 < 0) then
              r0 false
            else
            bif (!decide (v4 = v3)) then
              r0 false
            else
              impl_TrianglesOfArea k aN
                (fun v5 =>
                  laws_eqShapeS_0N_1N k fun v6 =>
                  bif (!v6) then
                    r0 false
                  else
                  bif (!decide (v5 = v)) then
                    r0 false
                  else
                    laws_heldShapeS_0N k 1 fun v7 =>
                    bif decide (v7 < 0) then
                      r0 false
                    else
                    bif (!decide (v7 = v3)) then
                      r0 false
                    else
                      r0 true)
                (fun v8 v9 =>
                  laws_eqShapeS_1N k v8 fun v10 =>
                  bif (!v10) then
                    r0 false
                  else
                  bif (!decide (v9 = v)) then
                    r0 false
                  else
                    laws_heldShapeS_0N k 1 fun v11 =>
                    bif decide (v11 < 0) then
                      r0 false
                    else
                    bif (!decide (v11 = v3)) then
                      r0 false
                    else
                      r0 true))
        (fun v12 v13 =>
          laws_eqShapeS_1N k v12 fun v14 =>
          bif (!v14) then
            r0 false
          else
          bif (!decide (v13 = v)) then
            r0 false
          else
            laws_markShapeS k v12 1 fun v15 v16 =>
            laws_heldShapeS k v16 1 fun v17 =>
            bif decide (v17 < 0) then
              r0 false
            else
            bif (!decide (v17 = v15)) then
              r0 false
            else
              impl_TrianglesOfArea k aN
                (fun v18 =>
                  laws_eqShapeS_0N_1N k fun v19 =>
                  bif (!v19) then
                    r0 false
                  else
                  bif (!decide (v18 = v)) then
                    r0 false
                  else
                    laws_heldShapeS k v16 1 fun v20 =>
                    bif decide (v20 < 0) then
                      r0 false
                    else
                    bif (!decide (v20 = v15)) then
                      r0 false
                    else
                      r0 true)
                (fun v21 v22 =>
                  laws_eqShapeS_1N k v21 fun v23 =>
                  bif (!v23) then
                    r0 false
                  else
                  bif (!decide (v22 = v)) then
                    r0 false
                  else
                    laws_heldShapeS k v16 1 fun v24 =>
                    bif decide (v24 < 0) then
                      r0 false
                    else
                    bif (!decide (v24 = v15)) then
                      r0 false
                    else
                      r0 true)))
    (fun v25 v26 =>
      impl_TrianglesOfArea k aN
        (fun v27 =>
          laws_eqShapeS_0N k v25 fun v28 =>
          bif (!v28) then
            r0 false
          else
          bif (!decide (v27 = v26)) then
            r0 false
          else
            laws_markShapeS_0N k 1 fun v29 =>
            laws_heldShapeS_0N k 1 fun v30 =>
            bif decide (v30 < 0) then
              r0 false
            else
            bif (!decide (v30 = v29)) then
              r0 false
            else
              impl_TrianglesOfArea k aN
                (fun v31 =>
                  laws_eqShapeS_0N k v25 fun v32 =>
                  bif (!v32) then
                    r0 false
                  else
                  bif (!decide (v31 = v26)) then
                    r0 false
                  else
                    laws_heldShapeS_0N k 1 fun v33 =>
                    bif decide (v33 < 0) then
                      r0 false
                    else
                    bif (!decide (v33 = v29)) then
                      r0 false
                    else
                      r0 true)
                (fun v34 v35 =>
                  laws_eqShapeS k v34 v25 fun v36 =>
                  bif (!v36) then
                    r0 false
                  else
                  bif (!decide (v35 = v26)) then
                    r0 false
                  else
                    laws_heldShapeS_0N k 1 fun v37 =>
                    bif decide (v37 < 0) then
                      r0 false
                    else
                    bif (!decide (v37 = v29)) then
                      r0 false
                    else
                      r0 true))
        (fun v38 v39 =>
          laws_eqShapeS k v38 v25 fun v40 =>
          bif (!v40) then
            r0 false
          else
          bif (!decide (v39 = v26)) then
            r0 false
          else
            laws_markShapeS k v38 1 fun v41 v42 =>
            laws_heldShapeS k v42 1 fun v43 =>
            bif decide (v43 < 0) then
              r0 false
            else
            bif (!decide (v43 = v41)) then
              r0 false
            else
              impl_TrianglesOfArea k aN
                (fun v44 =>
                  laws_eqShapeS_0N k v25 fun v45 =>
                  bif (!v45) then
                    r0 false
                  else
                  bif (!decide (v44 = v26)) then
                    r0 false
                  else
                    laws_heldShapeS k v42 1 fun v46 =>
                    bif decide (v46 < 0) then
                      r0 false
                    else
                    bif (!decide (v46 = v41)) then
                      r0 false
                    else
                      r0 true)
                (fun v47 v48 =>
                  laws_eqShapeS k v47 v25 fun v49 =>
                  bif (!v49) then
                    r0 false
                  else
                  bif (!decide (v48 = v26)) then
                    r0 false
                  else
                    laws_heldShapeS k v42 1 fun v50 =>
                    bif decide (v50 < 0) then
                      r0 false
                    else
                    bif (!decide (v50 = v41)) then
                      r0 false
                    else
                      r0 true)))

end Go.Sh
