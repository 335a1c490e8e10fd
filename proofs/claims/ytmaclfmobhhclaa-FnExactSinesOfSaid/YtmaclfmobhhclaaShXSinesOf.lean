/- The program's functions, read without memory: printed by a program of ours. -/
import Derived.Test.YtmaclfmobhhclaaMaB
namespace Go.Sh
open Go Go.Ev

/-- loop.example/g01297/laws.toPoint -/
def laws_toPoint {α : Type} (k : Nat) (a : Int) (a1 : Int) (r0 : Int → Int → Option α) : Option α :=
  r0 a a1

/-- loop.example/g01297/laws.toTriangle -/
def laws_toTriangle {α : Type} (k : Nat) (a : Int) (a1 : Int) (a2 : Int) (a3 : Int) (a4 : Int) (a5 : Int) (r0 : Int → Int → Int → Int → Int → Int → Option α) : Option α :=
  laws_toPoint k a a1 fun v v1 =>
  laws_toPoint k a2 a3 fun v2 v3 =>
  laws_toPoint k a4 a5 fun v4 v5 =>
  r0 v v1 v2 v3 v4 v5

/-- loop.example/g01297/spec.l01In -/
def spec_l01In {α : Type} (k : Nat) (n_ : Int) (low : Int) (high : Int) (r0 : Bool → Option α) : Option α :=
  bif decide (low ≤ n_) then
    r0 (decide (n_ ≤ high))
  else
    r0 false

/-- loop.example/g01297/spec.l01Plus -/
def spec_l01Plus {α : Type} (k : Nat) (a : Int) (a1 : Int) (b_ : Int) (b_1 : Int) (k_ : Int) (r0 : Int → Int → Option α) : Option α :=
  r0 (w64 (a + (w64 (k_ * b_)))) (w64 (a1 + (w64 (k_ * b_1))))

/-- loop.example/g01297/spec.l01Det -/
def spec_l01Det {α : Type} (k : Nat) (a : Int) (a1 : Int) (b_ : Int) (b_1 : Int) (r0 : Int → Option α) : Option α :=
  r0 (w64 ((w64 (a * b_1)) - (w64 (a1 * b_))))

/-- loop.example/g01297/spec.l01Area -/
def spec_l01Area {α : Type} (k : Nat) (a : Int) (a1 : Int) (b_ : Int) (b_1 : Int) (c : Int) (c1 : Int) (r0 : Int → Option α) : Option α :=
  spec_l01Plus k b_ b_1 a a1 (-1) fun v v1 =>
  spec_l01Plus k c c1 a a1 (-1) fun v2 v3 =>
  spec_l01Det k v v1 v2 v3 fun v4 =>
  r0 (max v4 (w64 (0 - v4)))

/-- loop.example/g01297/spec.l04Is -/
def spec_l04Is {α : Type} (k : Nat) (t : Int) (t1 : Int) (t2 : Int) (t3 : Int) (t4 : Int) (t5 : Int) (r0 : Bool → Option α) : Option α :=
  spec_l01In k t (-1000) 1000 fun v =>
  bif (!v) then
    r0 false
  else
    spec_l01In k t1 (-1000) 1000 fun v1 =>
    bif (!v1) then
      r0 false
    else
      spec_l01In k t2 (-1000) 1000 fun v2 =>
      bif (!v2) then
        r0 false
      else
        spec_l01In k t3 (-1000) 1000 fun v3 =>
        bif (!v3) then
          r0 false
        else
          spec_l01In k t4 (-1000) 1000 fun v4 =>
          bif (!v4) then
            r0 false
          else
            spec_l01In k t5 (-1000) 1000 fun v5 =>
            bif (!v5) then
              r0 false
            else
              spec_l01Area k t t1 t2 t3 t4 t5 fun v6 =>
              r0 (!decide (v6 = 0))

def spec_l01Gcd_l1 {α : Type} : Nat → Int → Int → (Int → Int → Option α) → (Int → Option α) → Option α
  | 0, _, _, _, _ => none
  | k + 1, a1, b_1, b0, r0 =>
    bif (!decide (b_1 = 0)) then
      bif decide (b_1 = 0) then
        none
      else
        spec_l01Gcd_l1 k b_1 (Int.tmod a1 b_1) b0 r0
    else
      b0 a1 b_1

/-- loop.example/g01297/spec.l01Gcd -/
def spec_l01Gcd {α : Type} (k : Nat) (a : Int) (b_ : Int) (r0 : Int → Option α) : Option α :=
  spec_l01Gcd_l1 k a b_
    (fun a2 b_2 =>
      r0 (max a2 (w64 (0 - a2))))
    r0

/-- loop.example/g01297/spec.l01Part -/
def spec_l01Part {α : Type} (k : Nat) (a : Int) (a1 : Int) (r0 : Int → Int → Option α) : Option α :=
  spec_l01Gcd k a a1 fun v =>
  bif decide (v = 0) then
    none
  else
  bif decide (v = 0) then
    none
  else
    r0 (w64 (Int.tdiv a v)) (w64 (Int.tdiv a1 v))

/-- loop.example/g01297/spec.l04Corner -/
def spec_l04Corner {α : Type} (k : Nat) (t : Int) (t1 : Int) (t2 : Int) (t3 : Int) (t4 : Int) (t5 : Int) (i : Int) (r0 : Int → Int → Int → Int → Option α) : Option α :=
  bif (decide (0 ≤ i) && decide (i < 3)) then
    ([t, t1, t2, t3, t4, t5][(i.toNat * 2)]?).bind fun e_ =>
    ([t, t1, t2, t3, t4, t5][((i.toNat * 2) + 1)]?).bind fun e_1 =>
    bif (decide (0 ≤ (Int.tmod (w64 (i + 1)) 3)) && decide ((Int.tmod (w64 (i + 1)) 3) < 3)) then
      ([t, t1, t2, t3, t4, t5][((Int.tmod (w64 (i + 1)) 3).toNat * 2)]?).bind fun e_2 =>
      ([t, t1, t2, t3, t4, t5][(((Int.tmod (w64 (i + 1)) 3).toNat * 2) + 1)]?).bind fun e_3 =>
      bif (decide (0 ≤ (Int.tmod (w64 (i + 2)) 3)) && decide ((Int.tmod (w64 (i + 2)) 3) < 3)) then
        ([t, t1, t2, t3, t4, t5][((Int.tmod (w64 (i + 2)) 3).toNat * 2)]?).bind fun e_4 =>
        ([t, t1, t2, t3, t4, t5][(((Int.tmod (w64 (i + 2)) 3).toNat * 2) + 1)]?).bind fun e_5 =>
        spec_l01Plus k e_2 e_3 e_ e_1 (-1) fun v v1 =>
        spec_l01Part k v v1 fun v2 v3 =>
        spec_l01Plus k e_4 e_5 e_ e_1 (-1) fun v4 v5 =>
        spec_l01Part k v4 v5 fun v6 v7 =>
        r0 v2 v3 v6 v7
      else
        none
    else
      none
  else
    none

/-- loop.example/g01297/spec.l02Sine -/
def spec_l02Sine {α : Type} (k : Nat) (x : Int) (x1 : Int) (x2 : Int) (x3 : Int) (r0 : Int → Option α) : Option α :=
  spec_l01Det k x x1 x2 x3 fun v =>
  r0 (max v (w64 (0 - v)))

/-- loop.example/g01297/spec.SinesOf -/
def spec_SinesOf {α : Type} (k : Nat) (t : Int) (t1 : Int) (t2 : Int) (t3 : Int) (t4 : Int) (t5 : Int) (r0 : Int → Option α) (r1 : List Int → Int → Option α) : Option α :=
  spec_l04Is k t t1 t2 t3 t4 t5 fun v =>
  bif (!v) then
    r0 1
  else
    spec_l04Corner k t t1 t2 t3 t4 t5 0 fun v1 v2 v3 v4 =>
    spec_l02Sine k v1 v2 v3 v4 fun v5 =>
    spec_l04Corner k t t1 t2 t3 t4 t5 1 fun v6 v7 v8 v9 =>
    spec_l02Sine k v6 v7 v8 v9 fun v10 =>
    spec_l04Corner k t t1 t2 t3 t4 t5 2 fun v11 v12 v13 v14 =>
    spec_l02Sine k v11 v12 v13 v14 fun v15 =>
    r1 [v5, v10, v15] 0

/-- loop.example/g01297/impl.in -/
def impl_in {α : Type} (k : Nat) (n_ : Int) (low : Int) (high : Int) (r0 : Bool → Option α) : Option α :=
  bif decide (low ≤ n_) then
    r0 (decide (n_ ≤ high))
  else
    r0 false

/-- loop.example/g01297/impl.small -/
def impl_small {α : Type} (k : Nat) (a : Int) (a1 : Int) (r0 : Bool → Option α) : Option α :=
  impl_in k a (-1000) 1000 fun v =>
  bif v then
    impl_in k a1 (-1000) 1000 fun v1 =>
    r0 v1
  else
    r0 false

/-- (loop.example/g01297/impl.Point).plus -/
def impl_Point_plus {α : Type} (k : Nat) (a : Int) (a1 : Int) (b_ : Int) (b_1 : Int) (k_ : Int) (r0 : Int → Int → Option α) : Option α :=
  r0 (w64 (a + (w64 (k_ * b_)))) (w64 (a1 + (w64 (k_ * b_1))))

/-- (loop.example/g01297/impl.Point).less -/
def impl_Point_less {α : Type} (k : Nat) (a : Int) (a1 : Int) (b_ : Int) (b_1 : Int) (r0 : Int → Int → Option α) : Option α :=
  impl_Point_plus k a a1 b_ b_1 (-1) fun v v1 =>
  r0 v v1

/-- loop.example/g01297/impl.det -/
def impl_det {α : Type} (k : Nat) (a : Int) (a1 : Int) (b_ : Int) (b_1 : Int) (r0 : Int → Option α) : Option α :=
  r0 (w64 ((w64 (a * b_1)) - (w64 (a1 * b_))))

/-- loop.example/g01297/impl.size -/
def impl_size {α : Type} (k : Nat) (n_ : Int) (r0 : Int → Option α) : Option α :=
  r0 (max n_ (w64 (0 - n_)))

/-- loop.example/g01297/impl.area -/
def impl_area {α : Type} (k : Nat) (a : Int) (a1 : Int) (b_ : Int) (b_1 : Int) (c : Int) (c1 : Int) (r0 : Int → Option α) : Option α :=
  impl_Point_less k b_ b_1 a a1 fun v v1 =>
  impl_Point_less k c c1 a a1 fun v2 v3 =>
  impl_det k v v1 v2 v3 fun v4 =>
  impl_size k v4 fun v5 =>
  r0 v5

/-- loop.example/g01297/impl.IsTriangle -/
def impl_IsTriangle {α : Type} (k : Nat) (t : Int) (t1 : Int) (t2 : Int) (t3 : Int) (t4 : Int) (t5 : Int) (r0 : Bool → Option α) : Option α :=
  impl_small k t t1 fun v =>
  bif v then
    impl_small k t2 t3 fun v1 =>
    bif v1 then
      impl_small k t4 t5 fun v2 =>
      bif v2 then
        impl_area k t t1 t2 t3 t4 t5 fun v3 =>
        r0 (!decide (v3 = 0))
      else
        r0 false
    else
      r0 false
  else
    r0 false

/-- (loop.example/g01297/impl.Triangle).side -/
def impl_Triangle_side {α : Type} (k : Nat) (t : Int) (t1 : Int) (t2 : Int) (t3 : Int) (t4 : Int) (t5 : Int) (i : Int) (k_ : Int) (r0 : Int → Int → Option α) : Option α :=
  bif (decide (0 ≤ k_) && decide (k_ < 3)) then
    ([t, t1, t2, t3, t4, t5][(k_.toNat * 2)]?).bind fun e_ =>
    ([t, t1, t2, t3, t4, t5][((k_.toNat * 2) + 1)]?).bind fun e_1 =>
    bif (decide (0 ≤ i) && decide (i < 3)) then
      ([t, t1, t2, t3, t4, t5][(i.toNat * 2)]?).bind fun e_2 =>
      ([t, t1, t2, t3, t4, t5][((i.toNat * 2) + 1)]?).bind fun e_3 =>
      impl_Point_less k e_ e_1 e_2 e_3 fun v v1 =>
      r0 v v1
    else
      none
  else
    none

def impl_gcd_l1 {α : Type} : Nat → Int → Int → (Int → Int → Option α) → (Int → Option α) → Option α
  | 0, _, _, _, _ => none
  | k + 1, a1, b_1, b0, r0 =>
    bif (!decide (b_1 = 0)) then
      bif decide (b_1 = 0) then
        none
      else
        impl_gcd_l1 k b_1 (Int.tmod a1 b_1) b0 r0
    else
      b0 a1 b_1

/-- loop.example/g01297/impl.gcd -/
def impl_gcd {α : Type} (k : Nat) (a : Int) (b_ : Int) (r0 : Int → Option α) : Option α :=
  impl_gcd_l1 k a b_
    (fun a2 b_2 =>
      impl_size k a2 fun v =>
      r0 v)
    r0

/-- (loop.example/g01297/impl.Point).length -/
def impl_Point_length {α : Type} (k : Nat) (a : Int) (a1 : Int) (r0 : Int → Option α) : Option α :=
  impl_gcd k a a1 fun v =>
  r0 v

/-- (loop.example/g01297/impl.Point).primitive -/
def impl_Point_primitive {α : Type} (k : Nat) (a : Int) (a1 : Int) (r0 : Int → Int → Option α) : Option α :=
  impl_Point_length k a a1 fun v =>
  bif decide (v = 0) then
    none
  else
  bif decide (v = 0) then
    none
  else
    r0 (w64 (Int.tdiv a v)) (w64 (Int.tdiv a1 v))

/-- (loop.example/g01297/impl.Triangle).corner -/
def impl_Triangle_corner {α : Type} (k : Nat) (t : Int) (t1 : Int) (t2 : Int) (t3 : Int) (t4 : Int) (t5 : Int) (i : Int) (r0 : Int → Int → Int → Int → Option α) : Option α :=
  impl_Triangle_side k t t1 t2 t3 t4 t5 i (Int.tmod (w64 (i + 1)) 3) fun v v1 =>
  impl_Point_primitive k v v1 fun v2 v3 =>
  impl_Triangle_side k t t1 t2 t3 t4 t5 i (Int.tmod (w64 (i + 2)) 3) fun v4 v5 =>
  impl_Point_primitive k v4 v5 fun v6 v7 =>
  r0 v2 v3 v6 v7

/-- (loop.example/g01297/impl.Corner).sine -/
def impl_Corner_sine {α : Type} (k : Nat) (x : Int) (x1 : Int) (x2 : Int) (x3 : Int) (r0 : Int → Option α) : Option α :=
  impl_det k x x1 x2 x3 fun v =>
  impl_size k v fun v1 =>
  r0 v1

/-- loop.example/g01297/impl.SinesOf -/
def impl_SinesOf {α : Type} (k : Nat) (t : Int) (t1 : Int) (t2 : Int) (t3 : Int) (t4 : Int) (t5 : Int) (r0 : Int → Option α) (r1 : List Int → Int → Option α) : Option α :=
  impl_IsTriangle k t t1 t2 t3 t4 t5 fun v =>
  bif (!v) then
    r0 1
  else
    impl_Triangle_corner k t t1 t2 t3 t4 t5 0 fun v1 v2 v3 v4 =>
    impl_Corner_sine k v1 v2 v3 v4 fun v5 =>
    impl_Triangle_corner k t t1 t2 t3 t4 t5 1 fun v6 v7 v8 v9 =>
    impl_Corner_sine k v6 v7 v8 v9 fun v10 =>
    impl_Triangle_corner k t t1 t2 t3 t4 t5 2 fun v11 v12 v13 v14 =>
    impl_Corner_sine k v11 v12 v13 v14 fun v15 =>
    r1 [v5, v10, v15] 0

/-- loop.example/g01297/laws.eqInt64S -/
def laws_eqInt64S_0N_1N {α : Type} (k : Nat)  (r0 : Bool → Option α) : Option α :=
  r0 true

/-- loop.example/g01297/laws.markInt64S -/
def laws_markInt64S_0N {α : Type} (k : Nat) (k_ : Int) (r0 : Int → Option α) : Option α :=
  r0 k_

/-- loop.example/g01297/laws.heldInt64S -/
def laws_heldInt64S_0N {α : Type} (k : Nat) (k_ : Int) (r0 : Int → Option α) : Option α :=
  r0 k_

def laws_eqInt64S_1N_l4 {α : Type} : Nat → Int → List Int → (Int → List Int → Option α) → (Bool → Option α) → Option α
  | 0, _, _, _, _ => none
  | k + 1, i, a1, b0, r0 =>
    bif decide (i < (((List.length a1) : Nat) : Int)) then
      bif (decide (0 ≤ i) && decide (i < (((List.length a1) : Nat) : Int))) then
        (a1[i.toNat]?).bind fun e_ =>
        none
      else
        none
    else
      b0 i a1

/-- loop.example/g01297/laws.eqInt64S -/
def laws_eqInt64S_1N {α : Type} (k : Nat) (a : List Int) (r0 : Bool → Option α) : Option α :=
  bif (!decide ((((List.length a) : Nat) : Int) = 0)) then
    r0 false
  else
    laws_eqInt64S_1N_l4 k 0 a
      (fun i1 a2 =>
        r0 true)
      r0

def laws_markInt64S_l2 {α : Type} : Nat → Int → Int → List Int → (Int → Int → List Int → Option α) → (Int → List Int → Option α) → Option α
  | 0, _, _, _, _, _ => none
  | k + 1, k_1, i, a1, b0, r0 =>
    bif decide (i < (((List.length a1) : Nat) : Int)) then
      bif (decide (0 ≤ i) && decide (i < (((List.length a1) : Nat) : Int))) then
        (a1[i.toNat]?).bind fun _ =>
        laws_markInt64S_l2 k (w64 (k_1 + 1)) (w64 (i + 1)) (List.set a1 i.toNat k_1) b0 r0
      else
        none
    else
      b0 k_1 i a1

/-- loop.example/g01297/laws.markInt64S -/
def laws_markInt64S {α : Type} (k : Nat) (a : List Int) (k_ : Int) (r0 : Int → List Int → Option α) : Option α :=
  laws_markInt64S_l2 k k_ 0 a
    (fun k_2 i1 a2 =>
      r0 k_2 a2)
    r0

def laws_heldInt64S_l2 {α : Type} : Nat → Int → Int → List Int → (Int → Int → List Int → Option α) → (Int → Option α) → Option α
  | 0, _, _, _, _, _ => none
  | k + 1, k_1, i, a1, b0, r0 =>
    bif decide (i < (((List.length a1) : Nat) : Int)) then
      bif (decide (0 ≤ i) && decide (i < (((List.length a1) : Nat) : Int))) then
        (a1[i.toNat]?).bind fun e_ =>
        bif (!decide (e_ = k_1)) then
          r0 (-1)
        else
          laws_heldInt64S_l2 k (w64 (k_1 + 1)) (w64 (i + 1)) a1 b0 r0
      else
        none
    else
      b0 k_1 i a1

/-- loop.example/g01297/laws.heldInt64S -/
def laws_heldInt64S {α : Type} (k : Nat) (a : List Int) (k_ : Int) (r0 : Int → Option α) : Option α :=
  laws_heldInt64S_l2 k k_ 0 a
    (fun k_2 i1 a2 =>
      r0 k_2)
    r0

/-- loop.example/g01297/laws.eqInt64S -/
def laws_eqInt64S_0N {α : Type} (k : Nat) (b_ : List Int) (r0 : Bool → Option α) : Option α :=
  bif (!decide (0 = (((List.length b_) : Nat) : Int))) then
    r0 false
  else
    r0 true

def laws_eqInt64S_l4 {α : Type} : Nat → Int → List Int → List Int → (Int → List Int → List Int → Option α) → (Bool → Option α) → Option α
  | 0, _, _, _, _, _ => none
  | k + 1, i, a1, b_1, b0, r0 =>
    bif decide (i < (((List.length a1) : Nat) : Int)) then
      bif (decide (0 ≤ i) && decide (i < (((List.length a1) : Nat) : Int))) then
        (a1[i.toNat]?).bind fun e_ =>
        bif (decide (0 ≤ i) && decide (i < (((List.length b_1) : Nat) : Int))) then
          (b_1[i.toNat]?).bind fun e_1 =>
          bif (!decide (e_ = e_1)) then
            r0 false
          else
            laws_eqInt64S_l4 k (w64 (i + 1)) a1 b_1 b0 r0
        else
          none
      else
        none
    else
      b0 i a1 b_1

/-- loop.example/g01297/laws.eqInt64S -/
def laws_eqInt64S {α : Type} (k : Nat) (a : List Int) (b_ : List Int) (r0 : Bool → Option α) : Option α :=
  bif (!decide ((((List.length a) : Nat) : Int) = (((List.length b_) : Nat) : Int))) then
    r0 false
  else
    laws_eqInt64S_l4 k 0 a b_
      (fun i1 a2 b_2 =>
        r0 true)
      r0

/-- loop.example/g01297/laws.FnExactSinesOf -/
def laws_FnExactSinesOf {α : Type} (k : Nat) (aT : Int) (aT1 : Int) (aT2 : Int) (aT3 : Int) (aT4 : Int) (aT5 : Int) (r0 : Bool → Option α) : Option α :=
  laws_toTriangle k aT aT1 aT2 aT3 aT4 aT5 fun v v1 v2 v3 v4 v5 =>
  spec_SinesOf k v v1 v2 v3 v4 v5
    (fun v6 =>
      laws_toTriangle k aT aT1 aT2 aT3 aT4 aT5 fun v7 v8 v9 v10 v11 v12 =>
      impl_SinesOf k v7 v8 v9 v10 v11 v12
        (fun v13 =>
          laws_eqInt64S_0N_1N k fun v14 =>
          bif (!v14) then
            r0 false
          else
          bif (!decide (v13 = v6)) then
            r0 false
          else
            laws_markInt64S_0N k 1 fun v15 =>
            laws_heldInt64S_0N k 1 fun v16 =>
            bif decide (v16 < 0) then
              r0 false
            else
            bif (!decide (v16 = v15)) then
              r0 false
            else
              laws_toTriangle k aT aT1 aT2 aT3 aT4 aT5 fun v17 v18 v19 v20 v21 v22 =>
              impl_SinesOf k v17 v18 v19 v20 v21 v22
                (fun v23 =>
                  laws_eqInt64S_0N_1N k fun v24 =>
                  bif (!v24) then
                    r0 false
                  else
                  bif (!decide (v23 = v6)) then
                    r0 false
                  else
                    laws_heldInt64S_0N k 1 fun v25 =>
                    bif decide (v25 < 0) then
                      r0 false
                    else
                    bif (!decide (v25 = v15)) then
                      r0 false
                    else
                      r0 true)
                (fun v26 v27 =>
                  laws_eqInt64S_1N k v26 fun v28 =>
                  bif (!v28) then
                    r0 false
                  else
                  bif (!decide (v27 = v6)) then
                    r0 false
                  else
                    laws_heldInt64S_0N k 1 fun v29 =>
                    bif decide (v29 < 0) then
                      r0 false
                    else
                    bif (!decide (v29 = v15)) then
                      r0 false
                    else
                      r0 true))
        (fun v30 v31 =>
          laws_eqInt64S_1N k v30 fun v32 =>
          bif (!v32) then
            r0 false
          else
          bif (!decide (v31 = v6)) then
            r0 false
          else
            laws_markInt64S k v30 1 fun v33 v34 =>
            laws_heldInt64S k v34 1 fun v35 =>
            bif decide (v35 < 0) then
              r0 false
            else
            bif (!decide (v35 = v33)) then
              r0 false
            else
              laws_toTriangle k aT aT1 aT2 aT3 aT4 aT5 fun v36 v37 v38 v39 v40 v41 =>
              impl_SinesOf k v36 v37 v38 v39 v40 v41
                (fun v42 =>
                  laws_eqInt64S_0N_1N k fun v43 =>
                  bif (!v43) then
                    r0 false
                  else
                  bif (!decide (v42 = v6)) then
                    r0 false
                  else
                    laws_heldInt64S k v34 1 fun v44 =>
                    bif decide (v44 < 0) then
                      r0 false
                    else
                    bif (!decide (v44 = v33)) then
                      r0 false
                    else
                      r0 true)
                (fun v45 v46 =>
                  laws_eqInt64S_1N k v45 fun v47 =>
                  bif (!v47) then
                    r0 false
                  else
                  bif (!decide (v46 = v6)) then
                    r0 false
                  else
                    laws_heldInt64S k v34 1 fun v48 =>
                    bif decide (v48 < 0) then
                      r0 false
                    else
                    bif (!decide (v48 = v33)) then
                      r0 false
                    else
                      r0 true)))
    (fun v49 v50 =>
      laws_toTriangle k aT aT1 aT2 aT3 aT4 aT5 fun v51 v52 v53 v54 v55 v56 =>
      impl_SinesOf k v51 v52 v53 v54 v55 v56
        (fun v57 =>
          laws_eqInt64S_0N k v49 fun v58 =>
          bif (!v58) then
            r0 false
          else
          bif (!decide (v57 = v50)) then
            r0 false
          else
            laws_markInt64S_0N k 1 fun v59 =>
            laws_heldInt64S_0N k 1 fun v60 =>
            bif decide (v60 < 0) then
              r0 false
            else
            bif (!decide (v60 = v59)) then
              r0 false
            else
              laws_toTriangle k aT aT1 aT2 aT3 aT4 aT5 fun v61 v62 v63 v64 v65 v66 =>
              impl_SinesOf k v61 v62 v63 v64 v65 v66
                (fun v67 =>
                  laws_eqInt64S_0N k v49 fun v68 =>
                  bif (!v68) then
                    r0 false
                  else
                  bif (!decide (v67 = v50)) then
                    r0 false
                  else
                    laws_heldInt64S_0N k 1 fun v69 =>
                    bif decide (v69 < 0) then
                      r0 false
                    else
                    bif (!decide (v69 = v59)) then
                      r0 false
                    else
                      r0 true)
                (fun v70 v71 =>
                  laws_eqInt64S k v70 v49 fun v72 =>
                  bif (!v72) then
                    r0 false
                  else
                  bif (!decide (v71 = v50)) then
                    r0 false
                  else
                    laws_heldInt64S_0N k 1 fun v73 =>
                    bif decide (v73 < 0) then
                      r0 false
                    else
                    bif (!decide (v73 = v59)) then
                      r0 false
                    else
                      r0 true))
        (fun v74 v75 =>
          laws_eqInt64S k v74 v49 fun v76 =>
          bif (!v76) then
            r0 false
          else
          bif (!decide (v75 = v50)) then
            r0 false
          else
            laws_markInt64S k v74 1 fun v77 v78 =>
            laws_heldInt64S k v78 1 fun v79 =>
            bif decide (v79 < 0) then
              r0 false
            else
            bif (!decide (v79 = v77)) then
              r0 false
            else
              laws_toTriangle k aT aT1 aT2 aT3 aT4 aT5 fun v80 v81 v82 v83 v84 v85 =>
              impl_SinesOf k v80 v81 v82 v83 v84 v85
                (fun v86 =>
                  laws_eqInt64S_0N k v49 fun v87 =>
                  bif (!v87) then
                    r0 false
                  else
                  bif (!decide (v86 = v50)) then
                    r0 false
                  else
                    laws_heldInt64S k v78 1 fun v88 =>
                    bif decide (v88 < 0) then
                      r0 false
                    else
                    bif (!decide (v88 = v77)) then
                      r0 false
                    else
                      r0 true)
                (fun v89 v90 =>
                  laws_eqInt64S k v89 v49 fun v91 =>
                  bif (!v91) then
                    r0 false
                  else
                  bif (!decide (v90 = v50)) then
                    r0 false
                  else
                    laws_heldInt64S k v78 1 fun v92 =>
                    bif decide (v92 < 0) then
                      r0 false
                    else
                    bif (!decide (v92 = v77)) then
                      r0 false
                    else
                      r0 true)))

end Go.Sh
