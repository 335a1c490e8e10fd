/- The program's functions, read without memory: printed by a program of ours. -/
import Derived.Test.YtoejoijickfgaaaMaB
namespace Go.Sh
open Go Go.Ev

/-- loop.example/g01297/spec.l01In -/
def spec_l01In {α : Type} (k : Nat) (n_ : Int) (low : Int) (high : Int) (r0 : Bool → Option α) : Option α :=
  bif decide (low ≤ n_) then
    r0 (decide (n_ ≤ high))
  else
    r0 false

def spec_l06Root_l2 {α : Type} : Nat → Int → Int → (Int → Int → Option α) → (Int → Option α) → Option α
  | 0, _, _, _, _ => none
  | k + 1, d1, w, b0, r0 =>
    bif decide ((w64 ((w64 (w + 1)) * (w64 (w + 1)))) ≤ d1) then
      spec_l06Root_l2 k d1 (w64 (w + 1)) b0 r0
    else
      b0 d1 w

/-- loop.example/g01297/spec.l06Root -/
def spec_l06Root {α : Type} (k : Nat) (d : Int) (r0 : Int → Option α) : Option α :=
  spec_l06Root_l2 k d 0
    (fun _ w1 =>
      r0 w1)
    r0

/-- loop.example/g01297/spec.l06Reduced -/
def spec_l06Reduced {α : Type} (k : Nat) (x : Int) (x1 : Int) (x2 : Int) (w : Int) (r0 : Bool → Option α) : Option α :=
  bif decide (0 < x1) then
    bif decide (x1 ≤ w) then
      bif decide ((w64 (w - x1)) < (w64 (2 * (max x (w64 (0 - x)))))) then
        r0 (decide ((w64 (2 * (max x (w64 (0 - x))))) ≤ (w64 (w + x1))))
      else
        r0 false
    else
      r0 false
  else
    r0 false

def spec_l06All_l11 {α : Type} : Nat → Int → Int → Int → Int → (List (Int × Int × Int)) → (Int → Int → Int → Int → (List (Int × Int × Int)) → Option α) → (Int → Option α) → ((List (Int × Int × Int)) → Int → Option α) → Option α
  | 0, _, _, _, _, _, _, _, _ => none
  | k + 1, d2, w1, a1, b_, out1, b2, r0, r1 =>
    bif decide (b_ ≤ w1) then
      bif (!decide (a1 = 0)) then
        bif decide ((w64 (4 * a1)) = 0) then
          none
        else
        bif (!decide ((Int.tmod (w64 ((w64 (b_ * b_)) - d2)) (w64 (4 * a1))) = 0)) then
          spec_l06All_l11 k d2 w1 a1 (w64 (b_ + 1)) out1 b2 r0 r1
        else
        bif decide ((w64 (4 * a1)) = 0) then
          none
        else
          spec_l06Reduced k a1 b_ (w64 (Int.tdiv (w64 ((w64 (b_ * b_)) - d2)) (w64 (4 * a1)))) w1 fun v2 =>
          bif v2 then
            bif decide (((List.length out1) + 1) ≤ big) then
              spec_l06All_l11 k d2 w1 a1 (w64 (b_ + 1)) (out1 ++ [(a1, b_, (w64 (Int.tdiv (w64 ((w64 (b_ * b_)) - d2)) (w64 (4 * a1)))))]) b2 r0 r1
            else
              none
          else
            spec_l06All_l11 k d2 w1 a1 (w64 (b_ + 1)) out1 b2 r0 r1
      else
        b2 d2 w1 a1 b_ out1
    else
      b2 d2 w1 a1 b_ out1

def spec_l06All_l8 {α : Type} : Nat → Int → Int → Int → (List (Int × Int × Int)) → (Int → Int → Int → (List (Int × Int × Int)) → Option α) → (Int → Option α) → ((List (Int × Int × Int)) → Int → Option α) → Option α
  | 0, _, _, _, _, _, _, _ => none
  | k + 1, d1, w, a, out, b0, r0, r1 =>
    bif decide (a ≤ w) then
      spec_l06All_l11 k d1 w a 1 out
        (fun d3 w2 a2 _ out2 =>
          spec_l06All_l8 k d3 w2 (w64 (a2 + 1)) out2 b0 r0 r1)
        r0 r1
    else
      b0 d1 w a out

/-- loop.example/g01297/spec.l06All -/
def spec_l06All {α : Type} (k : Nat) (d : Int) (r0 : Int → Option α) (r1 : (List (Int × Int × Int)) → Int → Option α) : Option α :=
  spec_l01In k d 1 4000 fun v =>
  bif (!v) then
    r0 2
  else
    spec_l06Root k d fun v1 =>
    bif decide ((w64 (v1 * v1)) = d) then
      r0 5
    else
    bif decide (1 < (Int.tmod d 4)) then
      r0 5
    else
      spec_l06All_l8 k d v1 (w64 (0 - v1)) []
        (fun _ _ _ out3 =>
          r1 out3 0)
        r0 r1

def spec_l06Has_l2 {α : Type} : Nat → Int → (List (Int × Int × Int)) → Int → Int → Int → (Int → (List (Int × Int × Int)) → Int → Int → Int → Option α) → (Bool → Option α) → Option α
  | 0, _, _, _, _, _, _, _ => none
  | k + 1, i, list1, x3, x4, x5, b0, r0 =>
    bif decide (i < (((List.length list1) : Nat) : Int)) then
      bif (decide (0 ≤ i) && decide (i < (((List.length list1) : Nat) : Int))) then
        (list1[i.toNat]?).bind fun e_ =>
        bif (decide (e_.1 = x3) && (decide (e_.2.1 = x4) && decide (e_.2.2 = x5))) then
          r0 true
        else
          spec_l06Has_l2 k (w64 (i + 1)) list1 x3 x4 x5 b0 r0
      else
        none
    else
      b0 i list1 x3 x4 x5

/-- loop.example/g01297/spec.l06Has -/
def spec_l06Has {α : Type} (k : Nat) (list : List (Int × Int × Int)) (x : Int) (x1 : Int) (x2 : Int) (r0 : Bool → Option α) : Option α :=
  spec_l06Has_l2 k 0 list x x1 x2
    (fun _ _ _ _ _ =>
      r0 false)
    r0

/-- loop.example/g01297/spec.l06Disc -/
def spec_l06Disc {α : Type} (k : Nat) (x : Int) (x1 : Int) (x2 : Int) (r0 : Int → Option α) : Option α :=
  r0 (w64 ((w64 (x1 * x1)) - (w64 ((w64 (4 * x)) * x2))))

/-- loop.example/g01297/spec.l01Rest -/
def spec_l01Rest {α : Type} (k : Nat) (n_ : Int) (x : Int) (r0 : Int → Option α) : Option α :=
  bif decide (n_ = 0) then
    none
  else
  bif decide (n_ = 0) then
    none
  else
    r0 (Int.tmod (w64 ((Int.tmod x n_) + n_)) n_)

/-- loop.example/g01297/spec.l06Next -/
def spec_l06Next {α : Type} (k : Nat) (x : Int) (x1 : Int) (x2 : Int) (d : Int) (w : Int) (r0 : Int → Int → Int → Option α) : Option α :=
  bif decide (w < (max x2 (w64 (0 - x2)))) then
    spec_l01Rest k (w64 (2 * (max x2 (w64 (0 - x2))))) (w64 ((max x2 (w64 (0 - x2))) + x1)) fun v =>
    bif decide ((w64 (4 * x2)) = 0) then
      none
    else
      r0 x2 (w64 ((max x2 (w64 (0 - x2))) - v)) (w64 (Int.tdiv (w64 ((w64 ((w64 ((max x2 (w64 (0 - x2))) - v)) * (w64 ((max x2 (w64 (0 - x2))) - v)))) - d)) (w64 (4 * x2))))
  else
    spec_l01Rest k (w64 (2 * (max x2 (w64 (0 - x2))))) (w64 (w + x1)) fun v1 =>
    bif decide ((w64 (4 * x2)) = 0) then
      none
    else
      r0 x2 (w64 (w - v1)) (w64 (Int.tdiv (w64 ((w64 ((w64 (w - v1)) * (w64 (w - v1)))) - d)) (w64 (4 * x2))))

def spec_l06Cycle_l3 {α : Type} : Nat → Int → Int → Int → Int → Int → (Int → Int → Int → Int → Int → Option α) → ((List (Int × Int × Int)) → Option α) → Option α
  | 0, _, _, _, _, _, _, _ => none
  | k + 1, d, w, x3, x4, x5, b0, r0 =>
    spec_l06Reduced k x3 x4 x5 w fun v2 =>
    bif (!v2) then
      spec_l06Next k x3 x4 x5 d w fun v3 v4 v5 =>
      spec_l06Cycle_l3 k d w v3 v4 v5 b0 r0
    else
      b0 d w x3 x4 x5

def spec_l06Cycle_l7 {α : Type} : Nat → Int → Int → Int → Int → Int → (List (Int × Int × Int)) → Int → Int → Int → (Int → Int → Int → Int → Int → (List (Int × Int × Int)) → Int → Int → Int → Option α) → ((List (Int × Int × Int)) → Option α) → Option α
  | 0, _, _, _, _, _, _, _, _, _, _, _ => none
  | k + 1, d2, w2, x9, x10, x11, out, now, now1, now2, b2, r0 =>
    bif (!(decide (now = x9) && (decide (now1 = x10) && decide (now2 = x11)))) then
      bif decide (((List.length out) + 1) ≤ big) then
        spec_l06Next k now now1 now2 d2 w2 fun v9 v10 v11 =>
        spec_l06Cycle_l7 k d2 w2 x9 x10 x11 (out ++ [(now, now1, now2)]) v9 v10 v11 b2 r0
      else
        none
    else
      b2 d2 w2 x9 x10 x11 out now now1 now2

/-- loop.example/g01297/spec.l06Cycle -/
def spec_l06Cycle {α : Type} (k : Nat) (x : Int) (x1 : Int) (x2 : Int) (r0 : (List (Int × Int × Int)) → Option α) : Option α :=
  spec_l06Disc k x x1 x2 fun v =>
  spec_l06Root k v fun v1 =>
  spec_l06Cycle_l3 k v v1 x x1 x2
    (fun d1 w1 x6 x7 x8 =>
      spec_l06Next k x6 x7 x8 d1 w1 fun v6 v7 v8 =>
      spec_l06Cycle_l7 k d1 w1 x6 x7 x8 [(x6, x7, x8)] v6 v7 v8
        (fun _ _ _ _ _ out1 _ _ _ =>
          r0 out1)
        r0)
    r0

def spec_ClassNumber_l6 {α : Type} : Nat → Int → Int → (List (Int × Int × Int)) → (List (Int × Int × Int)) → (Int → Int → (List (Int × Int × Int)) → (List (Int × Int × Int)) → Option α) → (Int → Int → Option α) → Option α
  | 0, _, _, _, _, _, _ => none
  | k + 1, count, i, list, met, b0, r0 =>
    bif decide (i < (((List.length list) : Nat) : Int)) then
      bif (decide (0 ≤ i) && decide (i < (((List.length list) : Nat) : Int))) then
        (list[i.toNat]?).bind fun e_ =>
        spec_l06Has k met e_.1 e_.2.1 e_.2.2 fun v1 =>
        bif (!v1) then
          bif (decide (0 ≤ i) && decide (i < (((List.length list) : Nat) : Int))) then
            (list[i.toNat]?).bind fun e_1 =>
            spec_l06Cycle k e_1.1 e_1.2.1 e_1.2.2 fun v2 =>
            bif decide (((List.length met) + (List.length v2)) ≤ big) then
              spec_ClassNumber_l6 k (w64 (count + 1)) (w64 (i + 1)) list (met ++ v2) b0 r0
            else
              none
          else
            none
        else
          spec_ClassNumber_l6 k count (w64 (i + 1)) list met b0 r0
      else
        none
    else
      b0 count i list met

/-- loop.example/g01297/spec.ClassNumber -/
def spec_ClassNumber {α : Type} (k : Nat) (d : Int) (r0 : Int → Int → Option α) : Option α :=
  spec_l06All k d
    (fun v =>
      bif (!decide (v = 0)) then
        r0 0 v
      else
        spec_ClassNumber_l6 k 0 0 [] []
          (fun count1 _ _ _ =>
            r0 count1 0)
          r0)
    (fun v3 v4 =>
      bif (!decide (v4 = 0)) then
        r0 0 v4
      else
        spec_ClassNumber_l6 k 0 0 v3 []
          (fun count2 _ _ _ =>
            r0 count2 0)
          r0)

/-- loop.example/g01297/impl.in -/
def impl_in {α : Type} (k : Nat) (n_ : Int) (low : Int) (high : Int) (r0 : Bool → Option α) : Option α :=
  bif decide (low ≤ n_) then
    r0 (decide (n_ ≤ high))
  else
    r0 false

def impl_root_l2 {α : Type} : Nat → Int → Int → (Int → Int → Option α) → (Int → Option α) → Option α
  | 0, _, _, _, _ => none
  | k + 1, d1, w, b0, r0 =>
    bif decide ((w64 ((w64 (w + 1)) * (w64 (w + 1)))) ≤ d1) then
      impl_root_l2 k d1 (w64 (w + 1)) b0 r0
    else
      b0 d1 w

/-- loop.example/g01297/impl.root -/
def impl_root {α : Type} (k : Nat) (d : Int) (r0 : Int → Option α) : Option α :=
  impl_root_l2 k d 0
    (fun _ w1 =>
      r0 w1)
    r0

/-- loop.example/g01297/impl.discOk -/
def impl_discOk {α : Type} (k : Nat) (d : Int) (r0 : Bool → Option α) : Option α :=
  impl_in k d 1 4000 fun v =>
  bif v then
    impl_root k d fun v1 =>
    impl_root k d fun v2 =>
    r0 (!decide ((w64 (v1 * v2)) = d))
  else
    r0 false

/-- loop.example/g01297/impl.discFault -/
def impl_discFault {α : Type} (k : Nat) (d : Int) (r0 : Int → Option α) : Option α :=
  impl_in k d 1 4000 fun v =>
  bif (!v) then
    r0 2
  else
    impl_discOk k d fun v1 =>
    bif (!v1) then
      r0 5
    else
    bif decide (1 < (Int.tmod d 4)) then
      r0 5
    else
      r0 0

/-- (loop.example/g01297/impl.Form).disc -/
def impl_Form_disc {α : Type} (k : Nat) (x : Int) (x1 : Int) (x2 : Int) (r0 : Int → Option α) : Option α :=
  r0 (w64 ((w64 (x1 * x1)) - (w64 ((w64 (4 * x)) * x2))))

/-- loop.example/g01297/impl.size -/
def impl_size {α : Type} (k : Nat) (n_ : Int) (r0 : Int → Option α) : Option α :=
  r0 (max n_ (w64 (0 - n_)))

/-- (loop.example/g01297/impl.Form).reduced -/
def impl_Form_reduced {α : Type} (k : Nat) (x : Int) (x1 : Int) (x2 : Int) (r0 : Bool → Option α) : Option α :=
  impl_Form_disc k x x1 x2 fun v =>
  impl_root k v fun v1 =>
  impl_in k x1 1 v1 fun v2 =>
  bif v2 then
    impl_size k x fun v3 =>
    bif decide ((w64 (v1 - x1)) < (w64 (2 * v3))) then
      impl_size k x fun v4 =>
      r0 (decide ((w64 (2 * v4)) ≤ (w64 (v1 + x1))))
    else
      r0 false
  else
    r0 false

def impl_reducedForms_l6 {α : Type} : Nat → Int → Int → Int → Int → (List (Int × Int × Int)) → (Int → Int → Int → Int → (List (Int × Int × Int)) → Option α) → ((List (Int × Int × Int)) → Option α) → Option α
  | 0, _, _, _, _, _, _, _ => none
  | k + 1, d2, w1, a1, b_, out1, b2, r0 =>
    bif decide (b_ ≤ w1) then
      bif (!decide (a1 = 0)) then
        bif decide ((w64 (4 * a1)) = 0) then
          none
        else
        bif (!decide ((Int.tmod (w64 ((w64 (b_ * b_)) - d2)) (w64 (4 * a1))) = 0)) then
          impl_reducedForms_l6 k d2 w1 a1 (w64 (b_ + 1)) out1 b2 r0
        else
        bif decide ((w64 (4 * a1)) = 0) then
          none
        else
          impl_Form_reduced k a1 b_ (w64 (Int.tdiv (w64 ((w64 (b_ * b_)) - d2)) (w64 (4 * a1)))) fun v1 =>
          bif v1 then
            bif decide (((List.length out1) + 1) ≤ big) then
              impl_reducedForms_l6 k d2 w1 a1 (w64 (b_ + 1)) (out1 ++ [(a1, b_, (w64 (Int.tdiv (w64 ((w64 (b_ * b_)) - d2)) (w64 (4 * a1)))))]) b2 r0
            else
              none
          else
            impl_reducedForms_l6 k d2 w1 a1 (w64 (b_ + 1)) out1 b2 r0
      else
        b2 d2 w1 a1 b_ out1
    else
      b2 d2 w1 a1 b_ out1

def impl_reducedForms_l3 {α : Type} : Nat → Int → Int → Int → (List (Int × Int × Int)) → (Int → Int → Int → (List (Int × Int × Int)) → Option α) → ((List (Int × Int × Int)) → Option α) → Option α
  | 0, _, _, _, _, _, _ => none
  | k + 1, d1, w, a, out, b0, r0 =>
    bif decide (a ≤ w) then
      impl_reducedForms_l6 k d1 w a 1 out
        (fun d3 w2 a2 _ out2 =>
          impl_reducedForms_l3 k d3 w2 (w64 (a2 + 1)) out2 b0 r0)
        r0
    else
      b0 d1 w a out

/-- loop.example/g01297/impl.reducedForms -/
def impl_reducedForms {α : Type} (k : Nat) (d : Int) (r0 : (List (Int × Int × Int)) → Option α) : Option α :=
  impl_root k d fun v =>
  impl_reducedForms_l3 k d v (w64 (0 - v)) []
    (fun _ _ _ out3 =>
      r0 out3)
    r0

/-- loop.example/g01297/impl.floor -/
def impl_floor {α : Type} (k : Nat) (a : Int) (b_ : Int) (r0 : Int → Option α) : Option α :=
  bif decide (b_ = 0) then
    none
  else
  bif decide (b_ = 0) then
    none
  else
  bif (!decide ((Int.tmod a b_) = 0)) then
    bif (!(decide (a < 0) == decide (b_ < 0))) then
      r0 (w64 ((w64 (Int.tdiv a b_)) - 1))
    else
      r0 (w64 (Int.tdiv a b_))
  else
    r0 (w64 (Int.tdiv a b_))

/-- loop.example/g01297/impl.mod -/
def impl_mod {α : Type} (k : Nat) (a : Int) (b_ : Int) (r0 : Int → Option α) : Option α :=
  impl_floor k a b_ fun v =>
  r0 (w64 (a - (w64 (b_ * v))))

/-- (loop.example/g01297/impl.Form).next -/
def impl_Form_next {α : Type} (k : Nat) (x : Int) (x1 : Int) (x2 : Int) (r0 : Int → Int → Int → Option α) : Option α :=
  impl_Form_disc k x x1 x2 fun v =>
  impl_size k x2 fun v1 =>
  impl_root k v fun v2 =>
  bif decide (v2 < v1) then
    impl_mod k (w64 ((w64 (0 - x1)) - (w64 (1 - v1)))) (w64 (2 * v1)) fun v3 =>
    bif decide ((w64 (4 * x2)) = 0) then
      none
    else
      r0 x2 (w64 ((w64 (1 - v1)) + v3)) (w64 (Int.tdiv (w64 ((w64 ((w64 ((w64 (1 - v1)) + v3)) * (w64 ((w64 (1 - v1)) + v3)))) - v)) (w64 (4 * x2))))
  else
    impl_mod k (w64 ((w64 (0 - x1)) - (w64 ((w64 (v2 - (w64 (2 * v1)))) + 1)))) (w64 (2 * v1)) fun v4 =>
    bif decide ((w64 (4 * x2)) = 0) then
      none
    else
      r0 x2 (w64 ((w64 ((w64 (v2 - (w64 (2 * v1)))) + 1)) + v4)) (w64 (Int.tdiv (w64 ((w64 ((w64 ((w64 ((w64 (v2 - (w64 (2 * v1)))) + 1)) + v4)) * (w64 ((w64 ((w64 (v2 - (w64 (2 * v1)))) + 1)) + v4)))) - v)) (w64 (4 * x2))))

def impl_Form_cycle_l1 {α : Type} : Nat → Int → Int → Int → (Int → Int → Int → Option α) → ((List (Int × Int × Int)) → Option α) → Option α
  | 0, _, _, _, _, _ => none
  | k + 1, x3, x4, x5, b0, r0 =>
    impl_Form_reduced k x3 x4 x5 fun v =>
    bif (!v) then
      impl_Form_next k x3 x4 x5 fun v1 v2 v3 =>
      impl_Form_cycle_l1 k v1 v2 v3 b0 r0
    else
      b0 x3 x4 x5

def impl_Form_cycle_l5 {α : Type} : Nat → Int → Int → Int → (List (Int × Int × Int)) → Int → Int → Int → (Int → Int → Int → (List (Int × Int × Int)) → Int → Int → Int → Option α) → ((List (Int × Int × Int)) → Option α) → Option α
  | 0, _, _, _, _, _, _, _, _, _ => none
  | k + 1, x9, x10, x11, out, y, y1, y2, b2, r0 =>
    bif (!(decide (y = x9) && (decide (y1 = x10) && decide (y2 = x11)))) then
      bif decide (((List.length out) + 1) ≤ big) then
        impl_Form_next k y y1 y2 fun v7 v8 v9 =>
        impl_Form_cycle_l5 k x9 x10 x11 (out ++ [(y, y1, y2)]) v7 v8 v9 b2 r0
      else
        none
    else
      b2 x9 x10 x11 out y y1 y2

/-- (loop.example/g01297/impl.Form).cycle -/
def impl_Form_cycle {α : Type} (k : Nat) (x : Int) (x1 : Int) (x2 : Int) (r0 : (List (Int × Int × Int)) → Option α) : Option α :=
  impl_Form_cycle_l1 k x x1 x2
    (fun x6 x7 x8 =>
      impl_Form_next k x6 x7 x8 fun v4 v5 v6 =>
      impl_Form_cycle_l5 k x6 x7 x8 [(x6, x7, x8)] v4 v5 v6
        (fun _ _ _ out1 _ _ _ =>
          r0 out1)
        r0)
    r0

def impl_ClassNumber_l11 {α : Type} : Nat → Int → Int → Int → Int → Int → (List (Int × Int × Int)) → List Bool → (List (Int × Int × Int)) → (List (Int × Int × Int)) → (Int → Int → Int → Int → Int → (List (Int × Int × Int)) → List Bool → (List (Int × Int × Int)) → (List (Int × Int × Int)) → Option α) → (Int → Int → Option α) → Option α
  | 0, _, _, _, _, _, _, _, _, _, _, _ => none
  | k + 1, many1, x3, x4, x5, x6, seen2, seen3, x7, x8, b2, r0 =>
    bif decide (x6 < x5) then
      bif (decide (0 ≤ x6) && decide (x6 < (((List.length x8) : Nat) : Int))) then
        (x8[x6.toNat]?).bind fun e_1 =>
        impl_ClassNumber_l11 k many1 x3 x4 x5 (w64 (x6 + 1)) (putK .tr seen2 (e_1.1, e_1.2.1, e_1.2.2)) (putV .tr .bool seen2 seen3 (e_1.1, e_1.2.1, e_1.2.2) true) x7 x8 b2 r0
      else
        none
    else
      b2 many1 x3 x4 x5 x6 seen2 seen3 x7 x8

def impl_ClassNumber_l6 {α : Type} : Nat → Int → Int → Int → (List (Int × Int × Int)) → List Bool → (List (Int × Int × Int)) → (Int → Int → Int → (List (Int × Int × Int)) → List Bool → (List (Int × Int × Int)) → Option α) → (Int → Int → Option α) → Option α
  | 0, _, _, _, _, _, _, _, _ => none
  | k + 1, many, x, x1, seen, seen1, x2, b0, r0 =>
    bif decide (x1 < x) then
      bif (decide (0 ≤ x1) && decide (x1 < (((List.length x2) : Nat) : Int))) then
        (x2[x1.toNat]?).bind fun e_ =>
        (getM .tr .bool seen seen1 (e_.1, e_.2.1, e_.2.2) false : Bool) |> fun (g : Bool) =>
        bif g then
          impl_ClassNumber_l6 k many x (w64 (x1 + 1)) seen seen1 x2 b0 r0
        else
          impl_Form_cycle k e_.1 e_.2.1 e_.2.2 fun v2 =>
          impl_ClassNumber_l11 k (w64 (many + 1)) x x1 (((List.length v2) : Nat) : Int) 0 seen seen1 x2 v2
            (fun many2 x9 x10 _ _ seen4 seen5 x13 _ =>
              impl_ClassNumber_l6 k many2 x9 (w64 (x10 + 1)) seen4 seen5 x13 b0 r0)
            r0
      else
        none
    else
      b0 many x x1 seen seen1 x2

/-- loop.example/g01297/impl.ClassNumber -/
def impl_ClassNumber {α : Type} (k : Nat) (d : Int) (r0 : Int → Int → Option α) : Option α :=
  impl_discFault k d fun v =>
  bif (!decide (v = 0)) then
    r0 0 v
  else
    impl_reducedForms k d fun v1 =>
    impl_ClassNumber_l6 k 0 (((List.length v1) : Nat) : Int) 0 [] [] v1
      (fun many3 _ _ _ _ _ =>
        r0 many3 0)
      r0

/-- loop.example/g01297/laws.FnExactClassNumber -/
def laws_FnExactClassNumber {α : Type} (k : Nat) (aD : Int) (r0 : Bool → Option α) : Option α :=
  spec_ClassNumber k aD fun v v1 =>
  impl_ClassNumber k aD fun v2 v3 =>
  bif (!decide (v2 = v)) then
    r0 false
  else
  bif (!decide (v3 = v1)) then
    r0 false
  else
    r0 true

end Go.Sh
