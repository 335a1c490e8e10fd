/- The program's functions, read without memory: printed by a program of ours. -/
import Derived.Test.YtegnnbhphgeocaaMaB
namespace Go.Sh
open Go Go.Ev

/-- loop.example/g01297/spec.l01In -/
def spec_l01In {α : Type} (k : Nat) (n_ : Int) (low : Int) (high : Int) (r0 : Bool → Option α) : Option α :=
  bif decide (low ≤ n_) then
    r0 (decide (n_ ≤ high))
  else
    r0 false

/-- loop.example/g01297/spec.l01Fits -/
def spec_l01Fits {α : Type} (k : Nat) (x : Int) (r0 : Bool → Option α) : Option α :=
  spec_l01In k x (-1000000) 1000000 fun v =>
  r0 v

/-- loop.example/g01297/spec.l10Ratio -/
def spec_l10Ratio {α : Type} (k : Nat) (p_ : Int) (q_ : Int) (low : Int) (r0 : Bool → Option α) : Option α :=
  spec_l01Fits k p_ fun v =>
  bif v then
    spec_l01In k q_ low 1000000 fun v1 =>
    r0 v1
  else
    r0 false

/-- loop.example/g01297/spec.l01Floor -/
def spec_l01Floor {α : Type} (k : Nat) (p_ : Int) (q_ : Int) (r0 : Int → Option α) : Option α :=
  bif decide (q_ = 0) then
    none
  else
  bif decide (q_ = 0) then
    none
  else
  bif (!decide ((Int.tmod p_ q_) = 0)) then
    bif (!(decide (p_ < 0) == decide (q_ < 0))) then
      r0 (w64 ((w64 (Int.tdiv p_ q_)) - 1))
    else
      r0 (w64 (Int.tdiv p_ q_))
  else
    r0 (w64 (Int.tdiv p_ q_))

def spec_l01Expand_l2 {α : Type} : Nat → Int → Int → List Int → (Int → Int → List Int → Option α) → (List Int → Option α) → Option α
  | 0, _, _, _, _, _ => none
  | k + 1, p_1, q_1, out, b0, r0 =>
    bif (!decide (q_1 = 0)) then
      spec_l01Floor k p_1 q_1 fun v =>
      bif decide (((List.length out) + 1) ≤ big) then
        spec_l01Expand_l2 k q_1 (w64 (p_1 - (w64 (v * q_1)))) (out ++ [v]) b0 r0
      else
        none
    else
      b0 p_1 q_1 out

/-- loop.example/g01297/spec.l01Expand -/
def spec_l01Expand {α : Type} (k : Nat) (p_ : Int) (q_ : Int) (r0 : List Int → Option α) : Option α :=
  spec_l01Expand_l2 k p_ q_ []
    (fun p_2 q_2 out1 =>
      r0 out1)
    r0

def spec_l01Fold_l3 {α : Type} : Nat → Int → Int → Int → List Int → (Int → Int → Int → List Int → Option α) → (Int → Int → Bool → Option α) → Option α
  | 0, _, _, _, _, _, _ => none
  | k + 1, p_, q_, i, list1, b0, r0 =>
    bif decide (0 ≤ i) then
      bif (decide (0 ≤ i) && decide (i < (((List.length list1) : Nat) : Int))) then
        (list1[i.toNat]?).bind fun e_1 =>
        spec_l01Fits k (w64 ((w64 (e_1 * p_)) + q_)) fun v =>
        bif (!v) then
          r0 0 0 false
        else
          spec_l01Fits k p_ fun v1 =>
          bif (!v1) then
            r0 0 0 false
          else
            spec_l01Fold_l3 k (w64 ((w64 (e_1 * p_)) + q_)) p_ (w64 (i - 1)) list1 b0 r0
      else
        none
    else
      b0 p_ q_ i list1

/-- loop.example/g01297/spec.l01Fold -/
def spec_l01Fold {α : Type} (k : Nat) (list : List Int) (r0 : Int → Int → Bool → Option α) : Option α :=
  bif (decide (0 ≤ (w64 ((((List.length list) : Nat) : Int) - 1))) && decide ((w64 ((((List.length list) : Nat) : Int) - 1)) < (((List.length list) : Nat) : Int))) then
    (list[(w64 ((((List.length list) : Nat) : Int) - 1)).toNat]?).bind fun e_ =>
    spec_l01Fold_l3 k e_ 1 (w64 ((((List.length list) : Nat) : Int) - 2)) list
      (fun p_1 q_1 i1 list2 =>
        r0 p_1 q_1 true)
      r0
  else
    none

def spec_ConvergentsOf_l5 {α : Type} : Nat → Int → List Int → (List (Int × Int)) → (Int → List Int → (List (Int × Int)) → Option α) → (Int → Option α) → ((List (Int × Int)) → Int → Option α) → Option α
  | 0, _, _, _, _, _, _ => none
  | k + 1, n_, list, out, b0, r0, r1 =>
    bif decide (n_ ≤ (((List.length list) : Nat) : Int)) then
      bif (decide (0 ≤ n_) && decide (n_ ≤ (((List.length list) : Nat) : Int))) then
        spec_l01Fold k (List.take (n_.toNat - 0) (List.drop 0 list)) fun v3 v4 v5 =>
        bif decide (((List.length out) + 1) ≤ big) then
          spec_ConvergentsOf_l5 k (w64 (n_ + 1)) list (out ++ [(v3, v4)]) b0 r0 r1
        else
          none
      else
        none
    else
      b0 n_ list out

/-- loop.example/g01297/spec.ConvergentsOf -/
def spec_ConvergentsOf {α : Type} (k : Nat) (p_ : Int) (q_ : Int) (r0 : Int → Option α) (r1 : (List (Int × Int)) → Int → Option α) : Option α :=
  spec_l01Fits k p_ fun v =>
  bif (!v) then
    r0 2
  else
    spec_l01In k q_ 1 1000000 fun v1 =>
    bif (!v1) then
      r0 2
    else
      spec_l01Expand k p_ q_ fun v2 =>
      spec_ConvergentsOf_l5 k 1 v2 []
        (fun n_1 list1 out1 =>
          r1 out1 0)
        r0 r1

def spec_IsConvergent_l5 {α : Type} : Nat → Int → Int → Int → (List (Int × Int)) → (Int → Int → Int → (List (Int × Int)) → Option α) → (Bool → Int → Option α) → Option α
  | 0, _, _, _, _, _, _ => none
  | k + 1, r_1, s1, i, list, b0, r0 =>
    bif decide (i < (((List.length list) : Nat) : Int)) then
      bif (decide (0 ≤ i) && decide (i < (((List.length list) : Nat) : Int))) then
        (list[i.toNat]?).bind fun e_ =>
        bif (decide (e_.1 = r_1) && decide (e_.2 = s1)) then
          r0 true 0
        else
          spec_IsConvergent_l5 k r_1 s1 (w64 (i + 1)) list b0 r0
      else
        none
    else
      b0 r_1 s1 i list

/-- loop.example/g01297/spec.IsConvergent -/
def spec_IsConvergent {α : Type} (k : Nat) (p_ : Int) (q_ : Int) (r_ : Int) (s : Int) (r0 : Bool → Int → Option α) : Option α :=
  spec_l10Ratio k p_ q_ 1 fun v =>
  bif (!v) then
    r0 false 2
  else
    spec_l10Ratio k r_ s 1 fun v1 =>
    bif (!v1) then
      r0 false 2
    else
      spec_ConvergentsOf k p_ q_
        (fun v2 =>
          spec_IsConvergent_l5 k r_ s 0 []
            (fun r_2 s2 i1 list1 =>
              r0 false 0)
            r0)
        (fun v3 v4 =>
          spec_IsConvergent_l5 k r_ s 0 v3
            (fun r_3 s3 i2 list2 =>
              r0 false 0)
            r0)

/-- loop.example/g01297/impl.in -/
def impl_in {α : Type} (k : Nat) (n_ : Int) (low : Int) (high : Int) (r0 : Bool → Option α) : Option α :=
  bif decide (low ≤ n_) then
    r0 (decide (n_ ≤ high))
  else
    r0 false

/-- loop.example/g01297/impl.isCoord -/
def impl_isCoord {α : Type} (k : Nat) (n_ : Int) (r0 : Bool → Option α) : Option α :=
  impl_in k n_ (-1000000) 1000000 fun v =>
  r0 v

/-- loop.example/g01297/impl.ratioOk -/
def impl_ratioOk {α : Type} (k : Nat) (p_ : Int) (q_ : Int) (r0 : Bool → Option α) : Option α :=
  impl_isCoord k p_ fun v =>
  bif v then
    impl_in k q_ 1 1000000 fun v1 =>
    r0 v1
  else
    r0 false

/-- loop.example/g01297/impl.floor -/
def impl_floor {α : Type} (k : Nat) (a : Int) (b_ : Int) (r0 : Int → Option α) : Option α :=
  bif decide (b_ = 0) then
    none
  else
  bif decide (b_ = 0) then
    none
  else
  bif (!decide ((Int.tmod a b_) = 0)) then
    bif (!(decide (a < 0) == decide (b_ < 0))) then
      r0 (w64 ((w64 (Int.tdiv a b_)) - 1))
    else
      r0 (w64 (Int.tdiv a b_))
  else
    r0 (w64 (Int.tdiv a b_))

def impl_expand_l2 {α : Type} : Nat → Int → Int → List Int → (Int → Int → List Int → Option α) → (List Int → Option α) → Option α
  | 0, _, _, _, _, _ => none
  | k + 1, p_1, q_1, out, b0, r0 =>
    bif (!decide (q_1 = 0)) then
      impl_floor k p_1 q_1 fun v =>
      bif decide (((List.length out) + 1) ≤ big) then
        impl_expand_l2 k q_1 (w64 (p_1 - (w64 (v * q_1)))) (out ++ [v]) b0 r0
      else
        none
    else
      b0 p_1 q_1 out

/-- loop.example/g01297/impl.expand -/
def impl_expand {α : Type} (k : Nat) (p_ : Int) (q_ : Int) (r0 : List Int → Option α) : Option α :=
  impl_expand_l2 k p_ q_ []
    (fun p_2 q_2 out1 =>
      r0 out1)
    r0

/-- (loop.example/g01297/impl.Point).plus -/
def impl_Point_plus {α : Type} (k : Nat) (a : Int) (a1 : Int) (b_ : Int) (b_1 : Int) (k_ : Int) (r0 : Int → Int → Option α) : Option α :=
  r0 (w64 (a + (w64 (k_ * b_)))) (w64 (a1 + (w64 (k_ * b_1))))

def impl_convergents_l3 {α : Type} : Nat → Int → Int → (List (Int × Int)) → Int → Int → Int → Int → List Int → (Int → Int → (List (Int × Int)) → Int → Int → Int → Int → List Int → Option α) → ((List (Int × Int)) → Option α) → Option α
  | 0, _, _, _, _, _, _, _, _, _, _ => none
  | k + 1, x, x1, out, now, now1, before, before1, x2, b0, r0 =>
    bif decide (x1 < x) then
      bif (decide (0 ≤ x1) && decide (x1 < (((List.length x2) : Nat) : Int))) then
        (x2[x1.toNat]?).bind fun e_ =>
        impl_Point_plus k before before1 now now1 e_ fun v1 v2 =>
        bif decide (((List.length out) + 1) ≤ big) then
          impl_convergents_l3 k x (w64 (x1 + 1)) (out ++ [(v1, v2)]) v1 v2 now now1 x2 b0 r0
        else
          none
      else
        none
    else
      b0 x x1 out now now1 before before1 x2

/-- loop.example/g01297/impl.convergents -/
def impl_convergents {α : Type} (k : Nat) (p_ : Int) (q_ : Int) (r0 : (List (Int × Int)) → Option α) : Option α :=
  impl_expand k p_ q_ fun v =>
  impl_convergents_l3 k (((List.length v) : Nat) : Int) 0 [] 1 0 0 1 v
    (fun x3 x4 out1 now2 now3 before2 before3 x5 =>
      r0 out1)
    r0

def slices_Index_impl_Point_impl_Point_l2 {α : Type} : Nat → Int → Int → (List (Int × Int)) → Int → Int → (Int → Int → (List (Int × Int)) → Int → Int → Option α) → (Int → Option α) → Option α
  | 0, _, _, _, _, _, _, _ => none
  | k + 1, x, x1, s1, v2, v3, b0, r0 =>
    bif decide (x1 < x) then
      bif (decide (0 ≤ x1) && decide (x1 < (((List.length s1) : Nat) : Int))) then
        (s1[x1.toNat]?).bind fun e_ =>
        bif (decide (v2 = e_.1) && decide (v3 = e_.2)) then
          r0 x1
        else
          slices_Index_impl_Point_impl_Point_l2 k x (w64 (x1 + 1)) s1 v2 v3 b0 r0
      else
        none
    else
      b0 x x1 s1 v2 v3

/-- slices.Index[[]loop.example/g01297/impl.Point,loop.example/g01297/impl.Point] -/
def slices_Index_impl_Point_impl_Point {α : Type} (k : Nat) (s : List (Int × Int)) (v : Int) (v1 : Int) (r0 : Int → Option α) : Option α :=
  slices_Index_impl_Point_impl_Point_l2 k (((List.length s) : Nat) : Int) 0 s v v1
    (fun x2 x3 s2 v4 v5 =>
      r0 (-1))
    r0

/-- slices.Contains[[]loop.example/g01297/impl.Point,loop.example/g01297/impl.Point] -/
def slices_Contains_impl_Point_impl_Point {α : Type} (k : Nat) (s : List (Int × Int)) (v : Int) (v1 : Int) (r0 : Bool → Option α) : Option α :=
  slices_Index_impl_Point_impl_Point k s v v1 fun v2 =>
  r0 (decide (0 ≤ v2))

/-- loop.example/g01297/impl.IsConvergent -/
def impl_IsConvergent {α : Type} (k : Nat) (p_ : Int) (q_ : Int) (r_ : Int) (s : Int) (r0 : Bool → Int → Option α) : Option α :=
  impl_ratioOk k p_ q_ fun v =>
  bif (!v) then
    r0 false 2
  else
    impl_ratioOk k r_ s fun v1 =>
    bif (!v1) then
      r0 false 2
    else
      impl_convergents k p_ q_ fun v2 =>
      slices_Contains_impl_Point_impl_Point k v2 r_ s fun v3 =>
      r0 v3 0

/-- loop.example/g01297/laws.FnExactIsConvergent -/
def laws_FnExactIsConvergent {α : Type} (k : Nat) (aP : Int) (aQ : Int) (aR : Int) (aS : Int) (r0 : Bool → Option α) : Option α :=
  spec_IsConvergent k aP aQ aR aS fun v v1 =>
  impl_IsConvergent k aP aQ aR aS fun v2 v3 =>
  bif (!(v2 == v)) then
    r0 false
  else
  bif (!decide (v3 = v1)) then
    r0 false
  else
    r0 true

end Go.Sh
