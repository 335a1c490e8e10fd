/- The program's functions, read without memory: printed by a program of ours. -/
import Derived.Test.YtjekmhinmcniaaaMaB
namespace Go.Sh
open Go Go.Ev

/-- loop.example/g01297/laws.toPoint -/
def laws_toPoint {α : Type} (k : Nat) (a : Int) (a1 : Int) (r0 : Int → Int → Option α) : Option α :=
  r0 a a1

/-- loop.example/g01297/laws.toTriangle -/
def laws_toTriangle {α : Type} (k : Nat) (a : Int) (a1 : Int) (a2 : Int) (a3 : Int) (a4 : Int) (a5 : Int) (r0 : Int → Int → Int → Int → Int → Int → Option α) : Option α :=
  laws_toPoint k a a1 fun v v1 =>
  laws_toPoint k a2 a3 fun v2 v3 =>
  laws_toPoint k a4 a5 fun v4 v5 =>
  r0 v v1 v2 v3 v4 v5

/-- loop.example/g01297/spec.l01In -/
def spec_l01In {α : Type} (k : Nat) (n_ : Int) (low : Int) (high : Int) (r0 : Bool → Option α) : Option α :=
  bif decide (low ≤ n_) then
    r0 (decide (n_ ≤ high))
  else
    r0 false

/-- loop.example/g01297/spec.l01Plus -/
def spec_l01Plus {α : Type} (k : Nat) (a : Int) (a1 : Int) (b_ : Int) (b_1 : Int) (k_ : Int) (r0 : Int → Int → Option α) : Option α :=
  r0 (w64 (a + (w64 (k_ * b_)))) (w64 (a1 + (w64 (k_ * b_1))))

/-- loop.example/g01297/spec.l01Det -/
def spec_l01Det {α : Type} (k : Nat) (a : Int) (a1 : Int) (b_ : Int) (b_1 : Int) (r0 : Int → Option α) : Option α :=
  r0 (w64 ((w64 (a * b_1)) - (w64 (a1 * b_))))

/-- loop.example/g01297/spec.l01Area -/
def spec_l01Area {α : Type} (k : Nat) (a : Int) (a1 : Int) (b_ : Int) (b_1 : Int) (c : Int) (c1 : Int) (r0 : Int → Option α) : Option α :=
  spec_l01Plus k b_ b_1 a a1 (-1) fun v v1 =>
  spec_l01Plus k c c1 a a1 (-1) fun v2 v3 =>
  spec_l01Det k v v1 v2 v3 fun v4 =>
  r0 (max v4 (w64 (0 - v4)))

/-- loop.example/g01297/spec.l04Is -/
def spec_l04Is {α : Type} (k : Nat) (t : Int) (t1 : Int) (t2 : Int) (t3 : Int) (t4 : Int) (t5 : Int) (r0 : Bool → Option α) : Option α :=
  spec_l01In k t (-1000) 1000 fun v =>
  bif (!v) then
    r0 false
  else
    spec_l01In k t1 (-1000) 1000 fun v1 =>
    bif (!v1) then
      r0 false
    else
      spec_l01In k t2 (-1000) 1000 fun v2 =>
      bif (!v2) then
        r0 false
      else
        spec_l01In k t3 (-1000) 1000 fun v3 =>
        bif (!v3) then
          r0 false
        else
          spec_l01In k t4 (-1000) 1000 fun v4 =>
          bif (!v4) then
            r0 false
          else
            spec_l01In k t5 (-1000) 1000 fun v5 =>
            bif (!v5) then
              r0 false
            else
              spec_l01Area k t t1 t2 t3 t4 t5 fun v6 =>
              r0 (!decide (v6 = 0))

def spec_l01Gcd_l1 {α : Type} : Nat → Int → Int → (Int → Int → Option α) → (Int → Option α) → Option α
  | 0, _, _, _, _ => none
  | k + 1, a1, b_1, b0, r0 =>
    bif (!decide (b_1 = 0)) then
      bif decide (b_1 = 0) then
        none
      else
        spec_l01Gcd_l1 k b_1 (Int.tmod a1 b_1) b0 r0
    else
      b0 a1 b_1

/-- loop.example/g01297/spec.l01Gcd -/
def spec_l01Gcd {α : Type} (k : Nat) (a : Int) (b_ : Int) (r0 : Int → Option α) : Option α :=
  spec_l01Gcd_l1 k a b_
    (fun a2 b_2 =>
      r0 (max a2 (w64 (0 - a2))))
    r0

/-- loop.example/g01297/spec.l01Part -/
def spec_l01Part {α : Type} (k : Nat) (a : Int) (a1 : Int) (r0 : Int → Int → Option α) : Option α :=
  spec_l01Gcd k a a1 fun v =>
  bif decide (v = 0) then
    none
  else
  bif decide (v = 0) then
    none
  else
    r0 (w64 (Int.tdiv a v)) (w64 (Int.tdiv a1 v))

/-- loop.example/g01297/spec.l01Length -/
def spec_l01Length {α : Type} (k : Nat) (a : Int) (a1 : Int) (b_ : Int) (b_1 : Int) (r0 : Int → Option α) : Option α :=
  spec_l01Gcd k (w64 (b_ - a)) (w64 (b_1 - a1)) fun v =>
  r0 v

/-- loop.example/g01297/spec.l04Area -/
def spec_l04Area {α : Type} (k : Nat) (t : Int) (t1 : Int) (t2 : Int) (t3 : Int) (t4 : Int) (t5 : Int) (r0 : Int → Option α) : Option α :=
  spec_l01Area k t t1 t2 t3 t4 t5 fun v =>
  r0 v

/-- loop.example/g01297/spec.l01Rest -/
def spec_l01Rest {α : Type} (k : Nat) (n_ : Int) (x : Int) (r0 : Int → Option α) : Option α :=
  bif decide (n_ = 0) then
    none
  else
  bif decide (n_ = 0) then
    none
  else
    r0 (Int.tmod (w64 ((Int.tmod x n_) + n_)) n_)

def spec_l01Base_l5 {α : Type} : Nat → Int → Int → Int → Int → Int → Int → Int → Int → Int → (Int → Int → Int → Int → Int → Int → Int → Int → Int → Option α) → (Int → Int → Option α) → Option α
  | 0, _, _, _, _, _, _, _, _, _, _, _ => none
  | k + 1, n_, x, before, rest, next, a2, a3, x1, x2, b0, r0 =>
    bif (!decide (next = 0)) then
      bif decide (next = 0) then
        none
      else
        spec_l01Base_l5 k n_ before (w64 (x - (w64 ((w64 (Int.tdiv rest next)) * before)))) next (w64 (rest - (w64 ((w64 (Int.tdiv rest next)) * next)))) a2 a3 x1 x2 b0 r0
    else
      b0 n_ x before rest next a2 a3 x1 x2

/-- loop.example/g01297/spec.l01Base -/
def spec_l01Base {α : Type} (k : Nat) (a : Int) (a1 : Int) (r0 : Int → Int → Option α) : Option α :=
  bif decide (a = 0) then
    r0 (w64 (0 - a1)) 0
  else
    spec_l01Rest k (max a (w64 (0 - a))) a1 fun v =>
    spec_l01Base_l5 k (max a (w64 (0 - a))) 1 0 v (max a (w64 (0 - a))) a a1 0 0
      (fun n_1 x3 before1 rest1 next1 a4 a5 x4 x5 =>
        spec_l01Rest k n_1 (w64 (0 - x3)) fun v1 =>
        bif decide (a4 = 0) then
          none
        else
          r0 v1 (w64 (Int.tdiv (w64 (1 + (w64 (a5 * v1)))) a4)))
      r0

/-- loop.example/g01297/spec.l04Shape -/
def spec_l04Shape {α : Type} (k : Nat) (t : Int) (t1 : Int) (t2 : Int) (t3 : Int) (t4 : Int) (t5 : Int) (i : Int) (j : Int) (r0 : Int → Int → Int → Option α) : Option α :=
  bif (decide (0 ≤ j) && decide (j < 3)) then
    ([t, t1, t2, t3, t4, t5][(j.toNat * 2)]?).bind fun e_ =>
    ([t, t1, t2, t3, t4, t5][((j.toNat * 2) + 1)]?).bind fun e_1 =>
    bif (decide (0 ≤ i) && decide (i < 3)) then
      ([t, t1, t2, t3, t4, t5][(i.toNat * 2)]?).bind fun e_2 =>
      ([t, t1, t2, t3, t4, t5][((i.toNat * 2) + 1)]?).bind fun e_3 =>
      bif (decide (0 ≤ (w64 ((w64 (3 - i)) - j))) && decide ((w64 ((w64 (3 - i)) - j)) < 3)) then
        ([t, t1, t2, t3, t4, t5][((w64 ((w64 (3 - i)) - j)).toNat * 2)]?).bind fun e_4 =>
        ([t, t1, t2, t3, t4, t5][(((w64 ((w64 (3 - i)) - j)).toNat * 2) + 1)]?).bind fun e_5 =>
        bif (decide (0 ≤ i) && decide (i < 3)) then
          ([t, t1, t2, t3, t4, t5][(i.toNat * 2)]?).bind fun e_6 =>
          ([t, t1, t2, t3, t4, t5][((i.toNat * 2) + 1)]?).bind fun e_7 =>
          spec_l01Plus k e_ e_1 e_2 e_3 (-1) fun v v1 =>
          spec_l01Plus k e_4 e_5 e_6 e_7 (-1) fun v2 v3 =>
          spec_l01Part k v v1 fun v4 v5 =>
          bif (decide (0 ≤ i) && decide (i < 3)) then
            ([t, t1, t2, t3, t4, t5][(i.toNat * 2)]?).bind fun e_8 =>
            ([t, t1, t2, t3, t4, t5][((i.toNat * 2) + 1)]?).bind fun e_9 =>
            bif (decide (0 ≤ j) && decide (j < 3)) then
              ([t, t1, t2, t3, t4, t5][(j.toNat * 2)]?).bind fun e_10 =>
              ([t, t1, t2, t3, t4, t5][((j.toNat * 2) + 1)]?).bind fun e_11 =>
              spec_l01Length k e_8 e_9 e_10 e_11 fun v6 =>
              spec_l04Area k t t1 t2 t3 t4 t5 fun v7 =>
              bif decide (v6 = 0) then
                none
              else
                spec_l01Base k v4 v5 fun v8 v9 =>
                spec_l01Det k v2 v3 v8 v9 fun v10 =>
                spec_l01Rest k (w64 (Int.tdiv v7 v6)) v10 fun v11 =>
                r0 v6 v11 (w64 (Int.tdiv v7 v6))
            else
              none
          else
            none
        else
          none
      else
        none
    else
      none
  else
    none

/-- loop.example/g01297/spec.l04Before -/
def spec_l04Before {α : Type} (k : Nat) (x : Int) (x1 : Int) (x2 : Int) (y : Int) (y1 : Int) (y2 : Int) (r0 : Bool → Option α) : Option α :=
  bif (!decide (x = y)) then
    r0 (decide (x < y))
  else
  bif (!decide (x1 = y1)) then
    r0 (decide (x1 < y1))
  else
    r0 (decide (x2 < y2))

def spec_l04Normal_l3 {α : Type} : Nat → Int → Int → Int → Int → Int → Int → Int → Int → Int → Int → Int → Int → Int → (Int → Int → Int → Int → Int → Int → Int → Int → Int → Int → Int → Int → Int → Option α) → (Int → Int → Int → Option α) → Option α
  | 0, _, _, _, _, _, _, _, _, _, _, _, _, _, _, _ => none
  | k + 1, i, t6, t7, t8, t9, t10, t11, x, x1, x2, out, out1, out2, b0, r0 =>
    bif decide (i < 3) then
      bif decide (i = 0) then
        bif decide (i = 1) then
          bif decide (i = 2) then
            spec_l04Normal_l3 k (w64 (i + 1)) t6 t7 t8 t9 t10 t11 x x1 x2 out out1 out2 b0 r0
          else
            spec_l04Shape k t6 t7 t8 t9 t10 t11 i 2 fun v3 v4 v5 =>
            spec_l04Before k v3 v4 v5 out out1 out2 fun v6 =>
            bif v6 then
              spec_l04Normal_l3 k (w64 (i + 1)) t6 t7 t8 t9 t10 t11 x x1 x2 v3 v4 v5 b0 r0
            else
              spec_l04Normal_l3 k (w64 (i + 1)) t6 t7 t8 t9 t10 t11 x x1 x2 out out1 out2 b0 r0
        else
          spec_l04Shape k t6 t7 t8 t9 t10 t11 i 1 fun v7 v8 v9 =>
          spec_l04Before k v7 v8 v9 out out1 out2 fun v10 =>
          bif v10 then
            bif decide (i = 2) then
              spec_l04Normal_l3 k (w64 (i + 1)) t6 t7 t8 t9 t10 t11 x x1 x2 v7 v8 v9 b0 r0
            else
              spec_l04Shape k t6 t7 t8 t9 t10 t11 i 2 fun v11 v12 v13 =>
              spec_l04Before k v11 v12 v13 v7 v8 v9 fun v14 =>
              bif v14 then
                spec_l04Normal_l3 k (w64 (i + 1)) t6 t7 t8 t9 t10 t11 x x1 x2 v11 v12 v13 b0 r0
              else
                spec_l04Normal_l3 k (w64 (i + 1)) t6 t7 t8 t9 t10 t11 x x1 x2 v7 v8 v9 b0 r0
          else
          bif decide (i = 2) then
            spec_l04Normal_l3 k (w64 (i + 1)) t6 t7 t8 t9 t10 t11 x x1 x2 out out1 out2 b0 r0
          else
            spec_l04Shape k t6 t7 t8 t9 t10 t11 i 2 fun v15 v16 v17 =>
            spec_l04Before k v15 v16 v17 out out1 out2 fun v18 =>
            bif v18 then
              spec_l04Normal_l3 k (w64 (i + 1)) t6 t7 t8 t9 t10 t11 x x1 x2 v15 v16 v17 b0 r0
            else
              spec_l04Normal_l3 k (w64 (i + 1)) t6 t7 t8 t9 t10 t11 x x1 x2 out out1 out2 b0 r0
      else
        spec_l04Shape k t6 t7 t8 t9 t10 t11 i 0 fun v19 v20 v21 =>
        spec_l04Before k v19 v20 v21 out out1 out2 fun v22 =>
        bif v22 then
          bif decide (i = 1) then
            bif decide (i = 2) then
              spec_l04Normal_l3 k (w64 (i + 1)) t6 t7 t8 t9 t10 t11 x x1 x2 v19 v20 v21 b0 r0
            else
              spec_l04Shape k t6 t7 t8 t9 t10 t11 i 2 fun v23 v24 v25 =>
              spec_l04Before k v23 v24 v25 v19 v20 v21 fun v26 =>
              bif v26 then
                spec_l04Normal_l3 k (w64 (i + 1)) t6 t7 t8 t9 t10 t11 x x1 x2 v23 v24 v25 b0 r0
              else
                spec_l04Normal_l3 k (w64 (i + 1)) t6 t7 t8 t9 t10 t11 x x1 x2 v19 v20 v21 b0 r0
          else
            spec_l04Shape k t6 t7 t8 t9 t10 t11 i 1 fun v27 v28 v29 =>
            spec_l04Before k v27 v28 v29 v19 v20 v21 fun v30 =>
            bif v30 then
              bif decide (i = 2) then
                spec_l04Normal_l3 k (w64 (i + 1)) t6 t7 t8 t9 t10 t11 x x1 x2 v27 v28 v29 b0 r0
              else
                spec_l04Shape k t6 t7 t8 t9 t10 t11 i 2 fun v31 v32 v33 =>
                spec_l04Before k v31 v32 v33 v27 v28 v29 fun v34 =>
                bif v34 then
                  spec_l04Normal_l3 k (w64 (i + 1)) t6 t7 t8 t9 t10 t11 x x1 x2 v31 v32 v33 b0 r0
                else
                  spec_l04Normal_l3 k (w64 (i + 1)) t6 t7 t8 t9 t10 t11 x x1 x2 v27 v28 v29 b0 r0
            else
            bif decide (i = 2) then
              spec_l04Normal_l3 k (w64 (i + 1)) t6 t7 t8 t9 t10 t11 x x1 x2 v19 v20 v21 b0 r0
            else
              spec_l04Shape k t6 t7 t8 t9 t10 t11 i 2 fun v35 v36 v37 =>
              spec_l04Before k v35 v36 v37 v19 v20 v21 fun v38 =>
              bif v38 then
                spec_l04Normal_l3 k (w64 (i + 1)) t6 t7 t8 t9 t10 t11 x x1 x2 v35 v36 v37 b0 r0
              else
                spec_l04Normal_l3 k (w64 (i + 1)) t6 t7 t8 t9 t10 t11 x x1 x2 v19 v20 v21 b0 r0
        else
        bif decide (i = 1) then
          bif decide (i = 2) then
            spec_l04Normal_l3 k (w64 (i + 1)) t6 t7 t8 t9 t10 t11 x x1 x2 out out1 out2 b0 r0
          else
            spec_l04Shape k t6 t7 t8 t9 t10 t11 i 2 fun v39 v40 v41 =>
            spec_l04Before k v39 v40 v41 out out1 out2 fun v42 =>
            bif v42 then
              spec_l04Normal_l3 k (w64 (i + 1)) t6 t7 t8 t9 t10 t11 x x1 x2 v39 v40 v41 b0 r0
            else
              spec_l04Normal_l3 k (w64 (i + 1)) t6 t7 t8 t9 t10 t11 x x1 x2 out out1 out2 b0 r0
        else
          spec_l04Shape k t6 t7 t8 t9 t10 t11 i 1 fun v43 v44 v45 =>
          spec_l04Before k v43 v44 v45 out out1 out2 fun v46 =>
          bif v46 then
            bif decide (i = 2) then
              spec_l04Normal_l3 k (w64 (i + 1)) t6 t7 t8 t9 t10 t11 x x1 x2 v43 v44 v45 b0 r0
            else
              spec_l04Shape k t6 t7 t8 t9 t10 t11 i 2 fun v47 v48 v49 =>
              spec_l04Before k v47 v48 v49 v43 v44 v45 fun v50 =>
              bif v50 then
                spec_l04Normal_l3 k (w64 (i + 1)) t6 t7 t8 t9 t10 t11 x x1 x2 v47 v48 v49 b0 r0
              else
                spec_l04Normal_l3 k (w64 (i + 1)) t6 t7 t8 t9 t10 t11 x x1 x2 v43 v44 v45 b0 r0
          else
          bif decide (i = 2) then
            spec_l04Normal_l3 k (w64 (i + 1)) t6 t7 t8 t9 t10 t11 x x1 x2 out out1 out2 b0 r0
          else
            spec_l04Shape k t6 t7 t8 t9 t10 t11 i 2 fun v51 v52 v53 =>
            spec_l04Before k v51 v52 v53 out out1 out2 fun v54 =>
            bif v54 then
              spec_l04Normal_l3 k (w64 (i + 1)) t6 t7 t8 t9 t10 t11 x x1 x2 v51 v52 v53 b0 r0
            else
              spec_l04Normal_l3 k (w64 (i + 1)) t6 t7 t8 t9 t10 t11 x x1 x2 out out1 out2 b0 r0
    else
      b0 i t6 t7 t8 t9 t10 t11 x x1 x2 out out1 out2

/-- loop.example/g01297/spec.l04Normal -/
def spec_l04Normal {α : Type} (k : Nat) (t : Int) (t1 : Int) (t2 : Int) (t3 : Int) (t4 : Int) (t5 : Int) (r0 : Int → Int → Int → Option α) : Option α :=
  spec_l04Shape k t t1 t2 t3 t4 t5 0 1 fun v v1 v2 =>
  spec_l04Normal_l3 k 0 t t1 t2 t3 t4 t5 0 0 0 v v1 v2
    (fun i1 t12 t13 t14 t15 t16 t17 x3 x4 x5 out3 out4 out5 =>
      r0 out3 out4 out5)
    r0

/-- loop.example/g01297/spec.AreEqualTriangles -/
def spec_AreEqualTriangles {α : Type} (k : Nat) (t : Int) (t1 : Int) (t2 : Int) (t3 : Int) (t4 : Int) (t5 : Int) (u : Int) (u1 : Int) (u2 : Int) (u3 : Int) (u4 : Int) (u5 : Int) (r0 : Bool → Int → Option α) : Option α :=
  spec_l04Is k t t1 t2 t3 t4 t5 fun v =>
  bif (!v) then
    r0 false 1
  else
    spec_l04Is k u u1 u2 u3 u4 u5 fun v1 =>
    bif (!v1) then
      r0 false 1
    else
      spec_l04Normal k t t1 t2 t3 t4 t5 fun v2 v3 v4 =>
      spec_l04Normal k u u1 u2 u3 u4 u5 fun v5 v6 v7 =>
      r0 (decide (v2 = v5) && (decide (v3 = v6) && decide (v4 = v7))) 0

/-- loop.example/g01297/impl.in -/
def impl_in {α : Type} (k : Nat) (n_ : Int) (low : Int) (high : Int) (r0 : Bool → Option α) : Option α :=
  bif decide (low ≤ n_) then
    r0 (decide (n_ ≤ high))
  else
    r0 false

/-- loop.example/g01297/impl.small -/
def impl_small {α : Type} (k : Nat) (a : Int) (a1 : Int) (r0 : Bool → Option α) : Option α :=
  impl_in k a (-1000) 1000 fun v =>
  bif v then
    impl_in k a1 (-1000) 1000 fun v1 =>
    r0 v1
  else
    r0 false

/-- (loop.example/g01297/impl.Point).plus -/
def impl_Point_plus {α : Type} (k : Nat) (a : Int) (a1 : Int) (b_ : Int) (b_1 : Int) (k_ : Int) (r0 : Int → Int → Option α) : Option α :=
  r0 (w64 (a + (w64 (k_ * b_)))) (w64 (a1 + (w64 (k_ * b_1))))

/-- (loop.example/g01297/impl.Point).less -/
def impl_Point_less {α : Type} (k : Nat) (a : Int) (a1 : Int) (b_ : Int) (b_1 : Int) (r0 : Int → Int → Option α) : Option α :=
  impl_Point_plus k a a1 b_ b_1 (-1) fun v v1 =>
  r0 v v1

/-- loop.example/g01297/impl.det -/
def impl_det {α : Type} (k : Nat) (a : Int) (a1 : Int) (b_ : Int) (b_1 : Int) (r0 : Int → Option α) : Option α :=
  r0 (w64 ((w64 (a * b_1)) - (w64 (a1 * b_))))

/-- loop.example/g01297/impl.size -/
def impl_size {α : Type} (k : Nat) (n_ : Int) (r0 : Int → Option α) : Option α :=
  r0 (max n_ (w64 (0 - n_)))

/-- loop.example/g01297/impl.area -/
def impl_area {α : Type} (k : Nat) (a : Int) (a1 : Int) (b_ : Int) (b_1 : Int) (c : Int) (c1 : Int) (r0 : Int → Option α) : Option α :=
  impl_Point_less k b_ b_1 a a1 fun v v1 =>
  impl_Point_less k c c1 a a1 fun v2 v3 =>
  impl_det k v v1 v2 v3 fun v4 =>
  impl_size k v4 fun v5 =>
  r0 v5

/-- loop.example/g01297/impl.IsTriangle -/
def impl_IsTriangle {α : Type} (k : Nat) (t : Int) (t1 : Int) (t2 : Int) (t3 : Int) (t4 : Int) (t5 : Int) (r0 : Bool → Option α) : Option α :=
  impl_small k t t1 fun v =>
  bif v then
    impl_small k t2 t3 fun v1 =>
    bif v1 then
      impl_small k t4 t5 fun v2 =>
      bif v2 then
        impl_area k t t1 t2 t3 t4 t5 fun v3 =>
        r0 (!decide (v3 = 0))
      else
        r0 false
    else
      r0 false
  else
    r0 false

/-- (loop.example/g01297/impl.Triangle).side -/
def impl_Triangle_side {α : Type} (k : Nat) (t : Int) (t1 : Int) (t2 : Int) (t3 : Int) (t4 : Int) (t5 : Int) (i : Int) (k_ : Int) (r0 : Int → Int → Option α) : Option α :=
  bif (decide (0 ≤ k_) && decide (k_ < 3)) then
    ([t, t1, t2, t3, t4, t5][(k_.toNat * 2)]?).bind fun e_ =>
    ([t, t1, t2, t3, t4, t5][((k_.toNat * 2) + 1)]?).bind fun e_1 =>
    bif (decide (0 ≤ i) && decide (i < 3)) then
      ([t, t1, t2, t3, t4, t5][(i.toNat * 2)]?).bind fun e_2 =>
      ([t, t1, t2, t3, t4, t5][((i.toNat * 2) + 1)]?).bind fun e_3 =>
      impl_Point_less k e_ e_1 e_2 e_3 fun v v1 =>
      r0 v v1
    else
      none
  else
    none

def impl_gcd_l1 {α : Type} : Nat → Int → Int → (Int → Int → Option α) → (Int → Option α) → Option α
  | 0, _, _, _, _ => none
  | k + 1, a1, b_1, b0, r0 =>
    bif (!decide (b_1 = 0)) then
      bif decide (b_1 = 0) then
        none
      else
        impl_gcd_l1 k b_1 (Int.tmod a1 b_1) b0 r0
    else
      b0 a1 b_1

/-- loop.example/g01297/impl.gcd -/
def impl_gcd {α : Type} (k : Nat) (a : Int) (b_ : Int) (r0 : Int → Option α) : Option α :=
  impl_gcd_l1 k a b_
    (fun a2 b_2 =>
      impl_size k a2 fun v =>
      r0 v)
    r0

/-- (loop.example/g01297/impl.Point).length -/
def impl_Point_length {α : Type} (k : Nat) (a : Int) (a1 : Int) (r0 : Int → Option α) : Option α :=
  impl_gcd k a a1 fun v =>
  r0 v

/-- (loop.example/g01297/impl.Triangle).area -/
def impl_Triangle_area {α : Type} (k : Nat) (t : Int) (t1 : Int) (t2 : Int) (t3 : Int) (t4 : Int) (t5 : Int) (r0 : Int → Option α) : Option α :=
  impl_area k t t1 t2 t3 t4 t5 fun v =>
  r0 v

/-- (loop.example/g01297/impl.Point).primitive -/
def impl_Point_primitive {α : Type} (k : Nat) (a : Int) (a1 : Int) (r0 : Int → Int → Option α) : Option α :=
  impl_Point_length k a a1 fun v =>
  bif decide (v = 0) then
    none
  else
  bif decide (v = 0) then
    none
  else
    r0 (w64 (Int.tdiv a v)) (w64 (Int.tdiv a1 v))

/-- loop.example/g01297/impl.floor -/
def impl_floor {α : Type} (k : Nat) (a : Int) (b_ : Int) (r0 : Int → Option α) : Option α :=
  bif decide (b_ = 0) then
    none
  else
  bif decide (b_ = 0) then
    none
  else
  bif (!decide ((Int.tmod a b_) = 0)) then
    bif (!(decide (a < 0) == decide (b_ < 0))) then
      r0 (w64 ((w64 (Int.tdiv a b_)) - 1))
    else
      r0 (w64 (Int.tdiv a b_))
  else
    r0 (w64 (Int.tdiv a b_))

/-- loop.example/g01297/impl.mod -/
def impl_mod {α : Type} (k : Nat) (a : Int) (b_ : Int) (r0 : Int → Option α) : Option α :=
  impl_floor k a b_ fun v =>
  r0 (w64 (a - (w64 (b_ * v))))

def impl_bezout_l2 {α : Type} : Nat → Int → Int → Int → Int → Int → (Int → Int → Int → Int → Int → Option α) → (Int → Option α) → Option α
  | 0, _, _, _, _, _, _, _ => none
  | k + 1, m1, r_, s, x, y, b0, r0 =>
    bif (!decide (s = 0)) then
      bif decide (s = 0) then
        none
      else
        impl_bezout_l2 k m1 s (w64 (r_ - (w64 ((w64 (Int.tdiv r_ s)) * s)))) y (w64 (x - (w64 ((w64 (Int.tdiv r_ s)) * y)))) b0 r0
    else
      b0 m1 r_ s x y

/-- loop.example/g01297/impl.bezout -/
def impl_bezout {α : Type} (k : Nat) (a : Int) (m : Int) (r0 : Int → Option α) : Option α :=
  impl_mod k a m fun v =>
  impl_bezout_l2 k m v m 1 0
    (fun m2 r_1 s1 x1 y1 =>
      impl_mod k x1 m2 fun v1 =>
      r0 v1)
    r0

/-- (loop.example/g01297/impl.Point).mate -/
def impl_Point_mate {α : Type} (k : Nat) (a : Int) (a1 : Int) (r0 : Int → Int → Option α) : Option α :=
  bif decide (a = 0) then
    r0 (w64 (0 - a1)) 0
  else
    impl_size k a fun v =>
    impl_bezout k a1 v fun v1 =>
    impl_size k a fun v2 =>
    impl_mod k (w64 (0 - v1)) v2 fun v3 =>
    bif decide (a = 0) then
      none
    else
      r0 v3 (w64 (Int.tdiv (w64 (1 + (w64 (a1 * v3)))) a))

/-- (loop.example/g01297/impl.Triangle).shape -/
def impl_Triangle_shape {α : Type} (k : Nat) (t : Int) (t1 : Int) (t2 : Int) (t3 : Int) (t4 : Int) (t5 : Int) (i : Int) (j : Int) (r0 : Int → Int → Int → Option α) : Option α :=
  impl_Triangle_side k t t1 t2 t3 t4 t5 i j fun v v1 =>
  impl_Triangle_side k t t1 t2 t3 t4 t5 i (w64 ((w64 (3 - i)) - j)) fun v2 v3 =>
  impl_Point_length k v v1 fun v4 =>
  impl_Triangle_area k t t1 t2 t3 t4 t5 fun v5 =>
  bif decide (v4 = 0) then
    none
  else
    impl_Point_primitive k v v1 fun v6 v7 =>
    impl_Point_mate k v6 v7 fun v8 v9 =>
    impl_det k v2 v3 v8 v9 fun v10 =>
    impl_mod k v10 (w64 (Int.tdiv v5 v4)) fun v11 =>
    r0 v4 v11 (w64 (Int.tdiv v5 v4))

/-- cmp.isNaN[int64] -/
def cmp_isNaN_int64 {α : Type} (k : Nat) (x : Int) (r0 : Bool → Option α) : Option α :=
  r0 (!decide (x = x))

/-- cmp.Compare[int64] -/
def cmp_Compare_int64 {α : Type} (k : Nat) (x : Int) (y : Int) (r0 : Int → Option α) : Option α :=
  cmp_isNaN_int64 k x fun v =>
  cmp_isNaN_int64 k y fun v1 =>
  bif v then
    bif v1 then
      r0 0
    else
      r0 (-1)
  else
  bif v1 then
    r0 1
  else
  bif decide (x < y) then
    r0 (-1)
  else
  bif decide (y < x) then
    r0 1
  else
    r0 0

def cmp_Or_int_l3 {α : Type} : Nat → Int → Int → Int → List Int → (Int → Int → Int → List Int → Option α) → (Int → Option α) → Option α
  | 0, _, _, _, _, _, _ => none
  | k + 1, zero, x, x1, x2, b0, r0 =>
    bif decide (x1 < x) then
      bif (decide (0 ≤ x1) && decide (x1 < (((List.length x2) : Nat) : Int))) then
        (x2[x1.toNat]?).bind fun e_ =>
        bif (!decide (e_ = zero)) then
          r0 e_
        else
          cmp_Or_int_l3 k zero x (w64 (x1 + 1)) x2 b0 r0
      else
        none
    else
      b0 zero x x1 x2

/-- cmp.Or[int] -/
def cmp_Or_int {α : Type} (k : Nat) (vals : List Int) (r0 : Int → Option α) : Option α :=
  cmp_Or_int_l3 k 0 (((List.length vals) : Nat) : Int) 0 vals
    (fun zero1 x3 x4 x5 =>
      r0 zero1)
    r0

/-- loop.example/g01297/impl.shapeOrder -/
def impl_shapeOrder {α : Type} (k : Nat) (a : Int) (a1 : Int) (a2 : Int) (b_ : Int) (b_1 : Int) (b_2 : Int) (r0 : Int → Option α) : Option α :=
  cmp_Compare_int64 k a b_ fun v =>
  cmp_Compare_int64 k a1 b_1 fun v1 =>
  cmp_Compare_int64 k a2 b_2 fun v2 =>
  cmp_Or_int k [v, v1, v2] fun v3 =>
  r0 v3

def impl_Triangle_normal_l3 {α : Type} : Nat → Int → Int → Int → Int → Int → Int → Int → Int → Int → Int → Int → Int → Int → (Int → Int → Int → Int → Int → Int → Int → Int → Int → Int → Int → Int → Int → Option α) → (Int → Int → Int → Option α) → Option α
  | 0, _, _, _, _, _, _, _, _, _, _, _, _, _, _, _ => none
  | k + 1, x, t6, t7, t8, t9, t10, t11, x1, x2, x3, out, out1, out2, b0, r0 =>
    bif decide (x < 3) then
      bif (!decide (x = 0)) then
        impl_Triangle_shape k t6 t7 t8 t9 t10 t11 x 0 fun v3 v4 v5 =>
        impl_shapeOrder k v3 v4 v5 out out1 out2 fun v6 =>
        bif decide (v6 < 0) then
          impl_Triangle_shape k t6 t7 t8 t9 t10 t11 x 0 fun v7 v8 v9 =>
          bif (!decide (x = 1)) then
            impl_Triangle_shape k t6 t7 t8 t9 t10 t11 x 1 fun v10 v11 v12 =>
            impl_shapeOrder k v10 v11 v12 v7 v8 v9 fun v13 =>
            bif decide (v13 < 0) then
              impl_Triangle_shape k t6 t7 t8 t9 t10 t11 x 1 fun v14 v15 v16 =>
              bif (!decide (x = 2)) then
                impl_Triangle_shape k t6 t7 t8 t9 t10 t11 x 2 fun v17 v18 v19 =>
                impl_shapeOrder k v17 v18 v19 v14 v15 v16 fun v20 =>
                bif decide (v20 < 0) then
                  impl_Triangle_shape k t6 t7 t8 t9 t10 t11 x 2 fun v21 v22 v23 =>
                  impl_Triangle_normal_l3 k (w64 (x + 1)) t6 t7 t8 t9 t10 t11 x1 x2 x3 v21 v22 v23 b0 r0
                else
                  impl_Triangle_normal_l3 k (w64 (x + 1)) t6 t7 t8 t9 t10 t11 x1 x2 x3 v14 v15 v16 b0 r0
              else
                impl_Triangle_normal_l3 k (w64 (x + 1)) t6 t7 t8 t9 t10 t11 x1 x2 x3 v14 v15 v16 b0 r0
            else
            bif (!decide (x = 2)) then
              impl_Triangle_shape k t6 t7 t8 t9 t10 t11 x 2 fun v24 v25 v26 =>
              impl_shapeOrder k v24 v25 v26 v7 v8 v9 fun v27 =>
              bif decide (v27 < 0) then
                impl_Triangle_shape k t6 t7 t8 t9 t10 t11 x 2 fun v28 v29 v30 =>
                impl_Triangle_normal_l3 k (w64 (x + 1)) t6 t7 t8 t9 t10 t11 x1 x2 x3 v28 v29 v30 b0 r0
              else
                impl_Triangle_normal_l3 k (w64 (x + 1)) t6 t7 t8 t9 t10 t11 x1 x2 x3 v7 v8 v9 b0 r0
            else
              impl_Triangle_normal_l3 k (w64 (x + 1)) t6 t7 t8 t9 t10 t11 x1 x2 x3 v7 v8 v9 b0 r0
          else
          bif (!decide (x = 2)) then
            impl_Triangle_shape k t6 t7 t8 t9 t10 t11 x 2 fun v31 v32 v33 =>
            impl_shapeOrder k v31 v32 v33 v7 v8 v9 fun v34 =>
            bif decide (v34 < 0) then
              impl_Triangle_shape k t6 t7 t8 t9 t10 t11 x 2 fun v35 v36 v37 =>
              impl_Triangle_normal_l3 k (w64 (x + 1)) t6 t7 t8 t9 t10 t11 x1 x2 x3 v35 v36 v37 b0 r0
            else
              impl_Triangle_normal_l3 k (w64 (x + 1)) t6 t7 t8 t9 t10 t11 x1 x2 x3 v7 v8 v9 b0 r0
          else
            impl_Triangle_normal_l3 k (w64 (x + 1)) t6 t7 t8 t9 t10 t11 x1 x2 x3 v7 v8 v9 b0 r0
        else
        bif (!decide (x = 1)) then
          impl_Triangle_shape k t6 t7 t8 t9 t10 t11 x 1 fun v38 v39 v40 =>
          impl_shapeOrder k v38 v39 v40 out out1 out2 fun v41 =>
          bif decide (v41 < 0) then
            impl_Triangle_shape k t6 t7 t8 t9 t10 t11 x 1 fun v42 v43 v44 =>
            bif (!decide (x = 2)) then
              impl_Triangle_shape k t6 t7 t8 t9 t10 t11 x 2 fun v45 v46 v47 =>
              impl_shapeOrder k v45 v46 v47 v42 v43 v44 fun v48 =>
              bif decide (v48 < 0) then
                impl_Triangle_shape k t6 t7 t8 t9 t10 t11 x 2 fun v49 v50 v51 =>
                impl_Triangle_normal_l3 k (w64 (x + 1)) t6 t7 t8 t9 t10 t11 x1 x2 x3 v49 v50 v51 b0 r0
              else
                impl_Triangle_normal_l3 k (w64 (x + 1)) t6 t7 t8 t9 t10 t11 x1 x2 x3 v42 v43 v44 b0 r0
            else
              impl_Triangle_normal_l3 k (w64 (x + 1)) t6 t7 t8 t9 t10 t11 x1 x2 x3 v42 v43 v44 b0 r0
          else
          bif (!decide (x = 2)) then
            impl_Triangle_shape k t6 t7 t8 t9 t10 t11 x 2 fun v52 v53 v54 =>
            impl_shapeOrder k v52 v53 v54 out out1 out2 fun v55 =>
            bif decide (v55 < 0) then
              impl_Triangle_shape k t6 t7 t8 t9 t10 t11 x 2 fun v56 v57 v58 =>
              impl_Triangle_normal_l3 k (w64 (x + 1)) t6 t7 t8 t9 t10 t11 x1 x2 x3 v56 v57 v58 b0 r0
            else
              impl_Triangle_normal_l3 k (w64 (x + 1)) t6 t7 t8 t9 t10 t11 x1 x2 x3 out out1 out2 b0 r0
          else
            impl_Triangle_normal_l3 k (w64 (x + 1)) t6 t7 t8 t9 t10 t11 x1 x2 x3 out out1 out2 b0 r0
        else
        bif (!decide (x = 2)) then
          impl_Triangle_shape k t6 t7 t8 t9 t10 t11 x 2 fun v59 v60 v61 =>
          impl_shapeOrder k v59 v60 v61 out out1 out2 fun v62 =>
          bif decide (v62 < 0) then
            impl_Triangle_shape k t6 t7 t8 t9 t10 t11 x 2 fun v63 v64 v65 =>
            impl_Triangle_normal_l3 k (w64 (x + 1)) t6 t7 t8 t9 t10 t11 x1 x2 x3 v63 v64 v65 b0 r0
          else
            impl_Triangle_normal_l3 k (w64 (x + 1)) t6 t7 t8 t9 t10 t11 x1 x2 x3 out out1 out2 b0 r0
        else
          impl_Triangle_normal_l3 k (w64 (x + 1)) t6 t7 t8 t9 t10 t11 x1 x2 x3 out out1 out2 b0 r0
      else
      bif (!decide (x = 1)) then
        impl_Triangle_shape k t6 t7 t8 t9 t10 t11 x 1 fun v66 v67 v68 =>
        impl_shapeOrder k v66 v67 v68 out out1 out2 fun v69 =>
        bif decide (v69 < 0) then
          impl_Triangle_shape k t6 t7 t8 t9 t10 t11 x 1 fun v70 v71 v72 =>
          bif (!decide (x = 2)) then
            impl_Triangle_shape k t6 t7 t8 t9 t10 t11 x 2 fun v73 v74 v75 =>
            impl_shapeOrder k v73 v74 v75 v70 v71 v72 fun v76 =>
            bif decide (v76 < 0) then
              impl_Triangle_shape k t6 t7 t8 t9 t10 t11 x 2 fun v77 v78 v79 =>
              impl_Triangle_normal_l3 k (w64 (x + 1)) t6 t7 t8 t9 t10 t11 x1 x2 x3 v77 v78 v79 b0 r0
            else
              impl_Triangle_normal_l3 k (w64 (x + 1)) t6 t7 t8 t9 t10 t11 x1 x2 x3 v70 v71 v72 b0 r0
          else
            impl_Triangle_normal_l3 k (w64 (x + 1)) t6 t7 t8 t9 t10 t11 x1 x2 x3 v70 v71 v72 b0 r0
        else
        bif (!decide (x = 2)) then
          impl_Triangle_shape k t6 t7 t8 t9 t10 t11 x 2 fun v80 v81 v82 =>
          impl_shapeOrder k v80 v81 v82 out out1 out2 fun v83 =>
          bif decide (v83 < 0) then
            impl_Triangle_shape k t6 t7 t8 t9 t10 t11 x 2 fun v84 v85 v86 =>
            impl_Triangle_normal_l3 k (w64 (x + 1)) t6 t7 t8 t9 t10 t11 x1 x2 x3 v84 v85 v86 b0 r0
          else
            impl_Triangle_normal_l3 k (w64 (x + 1)) t6 t7 t8 t9 t10 t11 x1 x2 x3 out out1 out2 b0 r0
        else
          impl_Triangle_normal_l3 k (w64 (x + 1)) t6 t7 t8 t9 t10 t11 x1 x2 x3 out out1 out2 b0 r0
      else
      bif (!decide (x = 2)) then
        impl_Triangle_shape k t6 t7 t8 t9 t10 t11 x 2 fun v87 v88 v89 =>
        impl_shapeOrder k v87 v88 v89 out out1 out2 fun v90 =>
        bif decide (v90 < 0) then
          impl_Triangle_shape k t6 t7 t8 t9 t10 t11 x 2 fun v91 v92 v93 =>
          impl_Triangle_normal_l3 k (w64 (x + 1)) t6 t7 t8 t9 t10 t11 x1 x2 x3 v91 v92 v93 b0 r0
        else
          impl_Triangle_normal_l3 k (w64 (x + 1)) t6 t7 t8 t9 t10 t11 x1 x2 x3 out out1 out2 b0 r0
      else
        impl_Triangle_normal_l3 k (w64 (x + 1)) t6 t7 t8 t9 t10 t11 x1 x2 x3 out out1 out2 b0 r0
    else
      b0 x t6 t7 t8 t9 t10 t11 x1 x2 x3 out out1 out2

/-- (loop.example/g01297/impl.Triangle).normal -/
def impl_Triangle_normal {α : Type} (k : Nat) (t : Int) (t1 : Int) (t2 : Int) (t3 : Int) (t4 : Int) (t5 : Int) (r0 : Int → Int → Int → Option α) : Option α :=
  impl_Triangle_shape k t t1 t2 t3 t4 t5 0 1 fun v v1 v2 =>
  impl_Triangle_normal_l3 k 0 t t1 t2 t3 t4 t5 0 0 0 v v1 v2
    (fun x4 t12 t13 t14 t15 t16 t17 x5 x6 x7 out3 out4 out5 =>
      r0 out3 out4 out5)
    r0

/-- loop.example/g01297/impl.AreEqualTriangles -/
def impl_AreEqualTriangles {α : Type} (k : Nat) (t : Int) (t1 : Int) (t2 : Int) (t3 : Int) (t4 : Int) (t5 : Int) (u : Int) (u1 : Int) (u2 : Int) (u3 : Int) (u4 : Int) (u5 : Int) (r0 : Bool → Int → Option α) : Option α :=
  impl_IsTriangle k t t1 t2 t3 t4 t5 fun v =>
  bif (!v) then
    r0 false 1
  else
    impl_IsTriangle k u u1 u2 u3 u4 u5 fun v1 =>
    bif (!v1) then
      r0 false 1
    else
      impl_Triangle_normal k t t1 t2 t3 t4 t5 fun v2 v3 v4 =>
      impl_Triangle_normal k u u1 u2 u3 u4 u5 fun v5 v6 v7 =>
      r0 (decide (v2 = v5) && (decide (v3 = v6) && decide (v4 = v7))) 0

/-- loop.example/g01297/laws.FnExactAreEqualTriangles -/
def laws_FnExactAreEqualTriangles {α : Type} (k : Nat) (aT : Int) (aT1 : Int) (aT2 : Int) (aT3 : Int) (aT4 : Int) (aT5 : Int) (aU : Int) (aU1 : Int) (aU2 : Int) (aU3 : Int) (aU4 : Int) (aU5 : Int) (r0 : Bool → Option α) : Option α :=
  laws_toTriangle k aT aT1 aT2 aT3 aT4 aT5 fun v v1 v2 v3 v4 v5 =>
  laws_toTriangle k aU aU1 aU2 aU3 aU4 aU5 fun v6 v7 v8 v9 v10 v11 =>
  spec_AreEqualTriangles k v v1 v2 v3 v4 v5 v6 v7 v8 v9 v10 v11 fun v12 v13 =>
  laws_toTriangle k aT aT1 aT2 aT3 aT4 aT5 fun v14 v15 v16 v17 v18 v19 =>
  laws_toTriangle k aU aU1 aU2 aU3 aU4 aU5 fun v20 v21 v22 v23 v24 v25 =>
  impl_AreEqualTriangles k v14 v15 v16 v17 v18 v19 v20 v21 v22 v23 v24 v25 fun v26 v27 =>
  bif (!(v26 == v12)) then
    r0 false
  else
  bif (!decide (v27 = v13)) then
    r0 false
  else
    r0 true

end Go.Sh
