/- The program's functions, read without memory: printed by a program of ours. -/
import Derived.Test.YtnfpidnnmgedfaaMaB
namespace Go.Sh
open Go Go.Ev

/-- loop.example/g01297/laws.toForm -/
def laws_toForm {α : Type} (k : Nat) (a : Int) (a1 : Int) (a2 : Int) (r0 : Int → Int → Int → Option α) : Option α :=
  r0 a a1 a2

/-- loop.example/g01297/spec.l01In -/
def spec_l01In {α : Type} (k : Nat) (n_ : Int) (low : Int) (high : Int) (r0 : Bool → Option α) : Option α :=
  bif decide (low ≤ n_) then
    r0 (decide (n_ ≤ high))
  else
    r0 false

/-- loop.example/g01297/spec.l01Fits -/
def spec_l01Fits {α : Type} (k : Nat) (x : Int) (r0 : Bool → Option α) : Option α :=
  spec_l01In k x (-1000000) 1000000 fun v =>
  r0 v

/-- loop.example/g01297/spec.l06Disc -/
def spec_l06Disc {α : Type} (k : Nat) (x : Int) (x1 : Int) (x2 : Int) (r0 : Int → Option α) : Option α :=
  r0 (w64 ((w64 (x1 * x1)) - (w64 ((w64 (4 * x)) * x2))))

def spec_l06Root_l2 {α : Type} : Nat → Int → Int → (Int → Int → Option α) → (Int → Option α) → Option α
  | 0, _, _, _, _ => none
  | k + 1, d1, w, b0, r0 =>
    bif decide ((w64 ((w64 (w + 1)) * (w64 (w + 1)))) ≤ d1) then
      spec_l06Root_l2 k d1 (w64 (w + 1)) b0 r0
    else
      b0 d1 w

/-- loop.example/g01297/spec.l06Root -/
def spec_l06Root {α : Type} (k : Nat) (d : Int) (r0 : Int → Option α) : Option α :=
  spec_l06Root_l2 k d 0
    (fun d2 w1 =>
      r0 w1)
    r0

/-- loop.example/g01297/spec.l06Is -/
def spec_l06Is {α : Type} (k : Nat) (x : Int) (x1 : Int) (x2 : Int) (r0 : Bool → Option α) : Option α :=
  spec_l01Fits k x fun v =>
  bif (!v) then
    r0 false
  else
    spec_l01Fits k x1 fun v1 =>
    bif (!v1) then
      r0 false
    else
      spec_l01Fits k x2 fun v2 =>
      bif (!v2) then
        r0 false
      else
        spec_l06Disc k x x1 x2 fun v3 =>
        spec_l01In k v3 1 4000 fun v4 =>
        bif (!v4) then
          r0 false
        else
          spec_l06Root k v3 fun v5 =>
          r0 (!decide ((w64 (v5 * v5)) = v3))

/-- loop.example/g01297/spec.l06Reduced -/
def spec_l06Reduced {α : Type} (k : Nat) (x : Int) (x1 : Int) (x2 : Int) (w : Int) (r0 : Bool → Option α) : Option α :=
  bif decide (0 < x1) then
    bif decide (x1 ≤ w) then
      bif decide ((w64 (w - x1)) < (w64 (2 * (max x (w64 (0 - x)))))) then
        r0 (decide ((w64 (2 * (max x (w64 (0 - x))))) ≤ (w64 (w + x1))))
      else
        r0 false
    else
      r0 false
  else
    r0 false

/-- loop.example/g01297/spec.l01Rest -/
def spec_l01Rest {α : Type} (k : Nat) (n_ : Int) (x : Int) (r0 : Int → Option α) : Option α :=
  bif decide (n_ = 0) then
    none
  else
  bif decide (n_ = 0) then
    none
  else
    r0 (Int.tmod (w64 ((Int.tmod x n_) + n_)) n_)

/-- loop.example/g01297/spec.l06Next -/
def spec_l06Next {α : Type} (k : Nat) (x : Int) (x1 : Int) (x2 : Int) (d : Int) (w : Int) (r0 : Int → Int → Int → Option α) : Option α :=
  bif decide (w < (max x2 (w64 (0 - x2)))) then
    spec_l01Rest k (w64 (2 * (max x2 (w64 (0 - x2))))) (w64 ((max x2 (w64 (0 - x2))) + x1)) fun v =>
    bif decide ((w64 (4 * x2)) = 0) then
      none
    else
      r0 x2 (w64 ((max x2 (w64 (0 - x2))) - v)) (w64 (Int.tdiv (w64 ((w64 ((w64 ((max x2 (w64 (0 - x2))) - v)) * (w64 ((max x2 (w64 (0 - x2))) - v)))) - d)) (w64 (4 * x2))))
  else
    spec_l01Rest k (w64 (2 * (max x2 (w64 (0 - x2))))) (w64 (w + x1)) fun v1 =>
    bif decide ((w64 (4 * x2)) = 0) then
      none
    else
      r0 x2 (w64 (w - v1)) (w64 (Int.tdiv (w64 ((w64 ((w64 (w - v1)) * (w64 (w - v1)))) - d)) (w64 (4 * x2))))

def spec_l06Cycle_l3 {α : Type} : Nat → Int → Int → Int → Int → Int → (Int → Int → Int → Int → Int → Option α) → ((List (Int × Int × Int)) → Option α) → Option α
  | 0, _, _, _, _, _, _, _ => none
  | k + 1, d, w, x3, x4, x5, b0, r0 =>
    spec_l06Reduced k x3 x4 x5 w fun v2 =>
    bif (!v2) then
      spec_l06Next k x3 x4 x5 d w fun v3 v4 v5 =>
      spec_l06Cycle_l3 k d w v3 v4 v5 b0 r0
    else
      b0 d w x3 x4 x5

def spec_l06Cycle_l7 {α : Type} : Nat → Int → Int → Int → Int → Int → (List (Int × Int × Int)) → Int → Int → Int → (Int → Int → Int → Int → Int → (List (Int × Int × Int)) → Int → Int → Int → Option α) → ((List (Int × Int × Int)) → Option α) → Option α
  | 0, _, _, _, _, _, _, _, _, _, _, _ => none
  | k + 1, d2, w2, x9, x10, x11, out, now, now1, now2, b2, r0 =>
    bif (!(decide (now = x9) && (decide (now1 = x10) && decide (now2 = x11)))) then
      bif decide (((List.length out) + 1) ≤ big) then
        spec_l06Next k now now1 now2 d2 w2 fun v9 v10 v11 =>
        spec_l06Cycle_l7 k d2 w2 x9 x10 x11 (out ++ [(now, now1, now2)]) v9 v10 v11 b2 r0
      else
        none
    else
      b2 d2 w2 x9 x10 x11 out now now1 now2

/-- loop.example/g01297/spec.l06Cycle -/
def spec_l06Cycle {α : Type} (k : Nat) (x : Int) (x1 : Int) (x2 : Int) (r0 : (List (Int × Int × Int)) → Option α) : Option α :=
  spec_l06Disc k x x1 x2 fun v =>
  spec_l06Root k v fun v1 =>
  spec_l06Cycle_l3 k v v1 x x1 x2
    (fun d1 w1 x6 x7 x8 =>
      spec_l06Next k x6 x7 x8 d1 w1 fun v6 v7 v8 =>
      spec_l06Cycle_l7 k d1 w1 x6 x7 x8 [(x6, x7, x8)] v6 v7 v8
        (fun d3 w3 x12 x13 x14 out1 now3 now4 now5 =>
          r0 out1)
        r0)
    r0

def spec_l06Has_l2 {α : Type} : Nat → Int → (List (Int × Int × Int)) → Int → Int → Int → (Int → (List (Int × Int × Int)) → Int → Int → Int → Option α) → (Bool → Option α) → Option α
  | 0, _, _, _, _, _, _, _ => none
  | k + 1, i, list1, x3, x4, x5, b0, r0 =>
    bif decide (i < (((List.length list1) : Nat) : Int)) then
      bif (decide (0 ≤ i) && decide (i < (((List.length list1) : Nat) : Int))) then
        (list1[i.toNat]?).bind fun e_ =>
        bif (decide (e_.1 = x3) && (decide (e_.2.1 = x4) && decide (e_.2.2 = x5))) then
          r0 true
        else
          spec_l06Has_l2 k (w64 (i + 1)) list1 x3 x4 x5 b0 r0
      else
        none
    else
      b0 i list1 x3 x4 x5

/-- loop.example/g01297/spec.l06Has -/
def spec_l06Has {α : Type} (k : Nat) (list : List (Int × Int × Int)) (x : Int) (x1 : Int) (x2 : Int) (r0 : Bool → Option α) : Option α :=
  spec_l06Has_l2 k 0 list x x1 x2
    (fun i1 list2 x6 x7 x8 =>
      r0 false)
    r0

/-- loop.example/g01297/spec.AreEquivalentForms -/
def spec_AreEquivalentForms {α : Type} (k : Nat) (x : Int) (x1 : Int) (x2 : Int) (y : Int) (y1 : Int) (y2 : Int) (r0 : Bool → Int → Option α) : Option α :=
  spec_l06Is k x x1 x2 fun v =>
  bif (!v) then
    r0 false 1
  else
    spec_l06Is k y y1 y2 fun v1 =>
    bif (!v1) then
      r0 false 1
    else
      spec_l06Disc k x x1 x2 fun v2 =>
      spec_l06Disc k y y1 y2 fun v3 =>
      bif (!decide (v2 = v3)) then
        r0 false 0
      else
        spec_l06Cycle k x x1 x2 fun v4 =>
        spec_l06Cycle k y y1 y2 fun v5 =>
        bif (true && decide (0 < (((List.length v5) : Nat) : Int))) then
          (v5[0]?).bind fun e_ =>
          spec_l06Has k v4 e_.1 e_.2.1 e_.2.2 fun v6 =>
          r0 v6 0
        else
          none

/-- loop.example/g01297/impl.in -/
def impl_in {α : Type} (k : Nat) (n_ : Int) (low : Int) (high : Int) (r0 : Bool → Option α) : Option α :=
  bif decide (low ≤ n_) then
    r0 (decide (n_ ≤ high))
  else
    r0 false

/-- loop.example/g01297/impl.isCoord -/
def impl_isCoord {α : Type} (k : Nat) (n_ : Int) (r0 : Bool → Option α) : Option α :=
  impl_in k n_ (-1000000) 1000000 fun v =>
  r0 v

/-- (loop.example/g01297/impl.Form).disc -/
def impl_Form_disc {α : Type} (k : Nat) (x : Int) (x1 : Int) (x2 : Int) (r0 : Int → Option α) : Option α :=
  r0 (w64 ((w64 (x1 * x1)) - (w64 ((w64 (4 * x)) * x2))))

def impl_root_l2 {α : Type} : Nat → Int → Int → (Int → Int → Option α) → (Int → Option α) → Option α
  | 0, _, _, _, _ => none
  | k + 1, d1, w, b0, r0 =>
    bif decide ((w64 ((w64 (w + 1)) * (w64 (w + 1)))) ≤ d1) then
      impl_root_l2 k d1 (w64 (w + 1)) b0 r0
    else
      b0 d1 w

/-- loop.example/g01297/impl.root -/
def impl_root {α : Type} (k : Nat) (d : Int) (r0 : Int → Option α) : Option α :=
  impl_root_l2 k d 0
    (fun d2 w1 =>
      r0 w1)
    r0

/-- loop.example/g01297/impl.discOk -/
def impl_discOk {α : Type} (k : Nat) (d : Int) (r0 : Bool → Option α) : Option α :=
  impl_in k d 1 4000 fun v =>
  bif v then
    impl_root k d fun v1 =>
    impl_root k d fun v2 =>
    r0 (!decide ((w64 (v1 * v2)) = d))
  else
    r0 false

/-- loop.example/g01297/impl.IsForm -/
def impl_IsForm {α : Type} (k : Nat) (x : Int) (x1 : Int) (x2 : Int) (r0 : Bool → Option α) : Option α :=
  impl_isCoord k x fun v =>
  bif v then
    impl_isCoord k x1 fun v1 =>
    bif v1 then
      impl_isCoord k x2 fun v2 =>
      bif v2 then
        impl_Form_disc k x x1 x2 fun v3 =>
        impl_discOk k v3 fun v4 =>
        r0 v4
      else
        r0 false
    else
      r0 false
  else
    r0 false

/-- loop.example/g01297/impl.size -/
def impl_size {α : Type} (k : Nat) (n_ : Int) (r0 : Int → Option α) : Option α :=
  r0 (max n_ (w64 (0 - n_)))

/-- (loop.example/g01297/impl.Form).reduced -/
def impl_Form_reduced {α : Type} (k : Nat) (x : Int) (x1 : Int) (x2 : Int) (r0 : Bool → Option α) : Option α :=
  impl_Form_disc k x x1 x2 fun v =>
  impl_root k v fun v1 =>
  impl_in k x1 1 v1 fun v2 =>
  bif v2 then
    impl_size k x fun v3 =>
    bif decide ((w64 (v1 - x1)) < (w64 (2 * v3))) then
      impl_size k x fun v4 =>
      r0 (decide ((w64 (2 * v4)) ≤ (w64 (v1 + x1))))
    else
      r0 false
  else
    r0 false

/-- loop.example/g01297/impl.floor -/
def impl_floor {α : Type} (k : Nat) (a : Int) (b_ : Int) (r0 : Int → Option α) : Option α :=
  bif decide (b_ = 0) then
    none
  else
  bif decide (b_ = 0) then
    none
  else
  bif (!decide ((Int.tmod a b_) = 0)) then
    bif (!(decide (a < 0) == decide (b_ < 0))) then
      r0 (w64 ((w64 (Int.tdiv a b_)) - 1))
    else
      r0 (w64 (Int.tdiv a b_))
  else
    r0 (w64 (Int.tdiv a b_))

/-- loop.example/g01297/impl.mod -/
def impl_mod {α : Type} (k : Nat) (a : Int) (b_ : Int) (r0 : Int → Option α) : Option α :=
  impl_floor k a b_ fun v =>
  r0 (w64 (a - (w64 (b_ * v))))

/-- (loop.example/g01297/impl.Form).next -/
def impl_Form_next {α : Type} (k : Nat) (x : Int) (x1 : Int) (x2 : Int) (r0 : Int → Int → Int → Option α) : Option α :=
  impl_Form_disc k x x1 x2 fun v =>
  impl_size k x2 fun v1 =>
  impl_root k v fun v2 =>
  bif decide (v2 < v1) then
    impl_mod k (w64 ((w64 (0 - x1)) - (w64 (1 - v1)))) (w64 (2 * v1)) fun v3 =>
    bif decide ((w64 (4 * x2)) = 0) then
      none
    else
      r0 x2 (w64 ((w64 (1 - v1)) + v3)) (w64 (Int.tdiv (w64 ((w64 ((w64 ((w64 (1 - v1)) + v3)) * (w64 ((w64 (1 - v1)) + v3)))) - v)) (w64 (4 * x2))))
  else
    impl_mod k (w64 ((w64 (0 - x1)) - (w64 ((w64 (v2 - (w64 (2 * v1)))) + 1)))) (w64 (2 * v1)) fun v4 =>
    bif decide ((w64 (4 * x2)) = 0) then
      none
    else
      r0 x2 (w64 ((w64 ((w64 (v2 - (w64 (2 * v1)))) + 1)) + v4)) (w64 (Int.tdiv (w64 ((w64 ((w64 ((w64 ((w64 (v2 - (w64 (2 * v1)))) + 1)) + v4)) * (w64 ((w64 ((w64 (v2 - (w64 (2 * v1)))) + 1)) + v4)))) - v)) (w64 (4 * x2))))

def impl_Form_cycle_l1 {α : Type} : Nat → Int → Int → Int → (Int → Int → Int → Option α) → ((List (Int × Int × Int)) → Option α) → Option α
  | 0, _, _, _, _, _ => none
  | k + 1, x3, x4, x5, b0, r0 =>
    impl_Form_reduced k x3 x4 x5 fun v =>
    bif (!v) then
      impl_Form_next k x3 x4 x5 fun v1 v2 v3 =>
      impl_Form_cycle_l1 k v1 v2 v3 b0 r0
    else
      b0 x3 x4 x5

def impl_Form_cycle_l5 {α : Type} : Nat → Int → Int → Int → (List (Int × Int × Int)) → Int → Int → Int → (Int → Int → Int → (List (Int × Int × Int)) → Int → Int → Int → Option α) → ((List (Int × Int × Int)) → Option α) → Option α
  | 0, _, _, _, _, _, _, _, _, _ => none
  | k + 1, x9, x10, x11, out, y, y1, y2, b2, r0 =>
    bif (!(decide (y = x9) && (decide (y1 = x10) && decide (y2 = x11)))) then
      bif decide (((List.length out) + 1) ≤ big) then
        impl_Form_next k y y1 y2 fun v7 v8 v9 =>
        impl_Form_cycle_l5 k x9 x10 x11 (out ++ [(y, y1, y2)]) v7 v8 v9 b2 r0
      else
        none
    else
      b2 x9 x10 x11 out y y1 y2

/-- (loop.example/g01297/impl.Form).cycle -/
def impl_Form_cycle {α : Type} (k : Nat) (x : Int) (x1 : Int) (x2 : Int) (r0 : (List (Int × Int × Int)) → Option α) : Option α :=
  impl_Form_cycle_l1 k x x1 x2
    (fun x6 x7 x8 =>
      impl_Form_next k x6 x7 x8 fun v4 v5 v6 =>
      impl_Form_cycle_l5 k x6 x7 x8 [(x6, x7, x8)] v4 v5 v6
        (fun x12 x13 x14 out1 y3 y4 y5 =>
          r0 out1)
        r0)
    r0

def slices_Index_impl_Form_impl_Form_l2 {α : Type} : Nat → Int → Int → (List (Int × Int × Int)) → Int → Int → Int → (Int → Int → (List (Int × Int × Int)) → Int → Int → Int → Option α) → (Int → Option α) → Option α
  | 0, _, _, _, _, _, _, _, _ => none
  | k + 1, x, x1, s1, v3, v4, v5, b0, r0 =>
    bif decide (x1 < x) then
      bif (decide (0 ≤ x1) && decide (x1 < (((List.length s1) : Nat) : Int))) then
        (s1[x1.toNat]?).bind fun e_ =>
        bif (decide (v3 = e_.1) && (decide (v4 = e_.2.1) && decide (v5 = e_.2.2))) then
          r0 x1
        else
          slices_Index_impl_Form_impl_Form_l2 k x (w64 (x1 + 1)) s1 v3 v4 v5 b0 r0
      else
        none
    else
      b0 x x1 s1 v3 v4 v5

/-- slices.Index[[]loop.example/g01297/impl.Form,loop.example/g01297/impl.Form] -/
def slices_Index_impl_Form_impl_Form {α : Type} (k : Nat) (s : List (Int × Int × Int)) (v : Int) (v1 : Int) (v2 : Int) (r0 : Int → Option α) : Option α :=
  slices_Index_impl_Form_impl_Form_l2 k (((List.length s) : Nat) : Int) 0 s v v1 v2
    (fun x2 x3 s2 v6 v7 v8 =>
      r0 (-1))
    r0

/-- slices.Contains[[]loop.example/g01297/impl.Form,loop.example/g01297/impl.Form] -/
def slices_Contains_impl_Form_impl_Form {α : Type} (k : Nat) (s : List (Int × Int × Int)) (v : Int) (v1 : Int) (v2 : Int) (r0 : Bool → Option α) : Option α :=
  slices_Index_impl_Form_impl_Form k s v v1 v2 fun v3 =>
  r0 (decide (0 ≤ v3))

/-- loop.example/g01297/impl.AreEquivalentForms -/
def impl_AreEquivalentForms {α : Type} (k : Nat) (x : Int) (x1 : Int) (x2 : Int) (y : Int) (y1 : Int) (y2 : Int) (r0 : Bool → Int → Option α) : Option α :=
  impl_IsForm k x x1 x2 fun v =>
  bif (!v) then
    r0 false 1
  else
    impl_IsForm k y y1 y2 fun v1 =>
    bif (!v1) then
      r0 false 1
    else
      impl_Form_disc k x x1 x2 fun v2 =>
      impl_Form_disc k y y1 y2 fun v3 =>
      bif decide (v2 = v3) then
        impl_Form_cycle k x x1 x2 fun v4 =>
        impl_Form_cycle k y y1 y2 fun v5 =>
        bif (true && decide (0 < (((List.length v5) : Nat) : Int))) then
          (v5[0]?).bind fun e_ =>
          slices_Contains_impl_Form_impl_Form k v4 e_.1 e_.2.1 e_.2.2 fun v6 =>
          r0 v6 0
        else
          none
      else
        r0 false 0

/-- loop.example/g01297/laws.FnExactAreEquivalentForms -/
def laws_FnExactAreEquivalentForms {α : Type} (k : Nat) (aX : Int) (aX1 : Int) (aX2 : Int) (aY : Int) (aY1 : Int) (aY2 : Int) (r0 : Bool → Option α) : Option α :=
  laws_toForm k aX aX1 aX2 fun v v1 v2 =>
  laws_toForm k aY aY1 aY2 fun v3 v4 v5 =>
  spec_AreEquivalentForms k v v1 v2 v3 v4 v5 fun v6 v7 =>
  laws_toForm k aX aX1 aX2 fun v8 v9 v10 =>
  laws_toForm k aY aY1 aY2 fun v11 v12 v13 =>
  impl_AreEquivalentForms k v8 v9 v10 v11 v12 v13 fun v14 v15 =>
  bif (!(v14 == v6)) then
    r0 false
  else
  bif (!decide (v15 = v7)) then
    r0 false
  else
    r0 true

end Go.Sh
