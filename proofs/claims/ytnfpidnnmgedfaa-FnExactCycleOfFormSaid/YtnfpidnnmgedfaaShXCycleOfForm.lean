/- The program's functions, read without memory: printed by a program of ours. -/
import Derived.Test.YtnfpidnnmgedfaaMaB
namespace Go.Sh
open Go Go.Ev

/-- loop.example/g01297/laws.toForm -/
def laws_toForm {α : Type} (k : Nat) (a : Int) (a1 : Int) (a2 : Int) (r0 : Int → Int → Int → Option α) : Option α :=
  r0 a a1 a2

/-- loop.example/g01297/spec.l01In -/
def spec_l01In {α : Type} (k : Nat) (n_ : Int) (low : Int) (high : Int) (r0 : Bool → Option α) : Option α :=
  bif decide (low ≤ n_) then
    r0 (decide (n_ ≤ high))
  else
    r0 false

/-- loop.example/g01297/spec.l01Fits -/
def spec_l01Fits {α : Type} (k : Nat) (x : Int) (r0 : Bool → Option α) : Option α :=
  spec_l01In k x (-1000000) 1000000 fun v =>
  r0 v

/-- loop.example/g01297/spec.l06Disc -/
def spec_l06Disc {α : Type} (k : Nat) (x : Int) (x1 : Int) (x2 : Int) (r0 : Int → Option α) : Option α :=
  r0 (w64 ((w64 (x1 * x1)) - (w64 ((w64 (4 * x)) * x2))))

def spec_l06Root_l2 {α : Type} : Nat → Int → Int → (Int → Int → Option α) → (Int → Option α) → Option α
  | 0, _, _, _, _ => none
  | k + 1, d1, w, b0, r0 =>
    bif decide ((w64 ((w64 (w + 1)) * (w64 (w + 1)))) ≤ d1) then
      spec_l06Root_l2 k d1 (w64 (w + 1)) b0 r0
    else
      b0 d1 w

/-- loop.example/g01297/spec.l06Root -/
def spec_l06Root {α : Type} (k : Nat) (d : Int) (r0 : Int → Option α) : Option α :=
  spec_l06Root_l2 k d 0
    (fun d2 w1 =>
      r0 w1)
    r0

/-- loop.example/g01297/spec.l06Is -/
def spec_l06Is {α : Type} (k : Nat) (x : Int) (x1 : Int) (x2 : Int) (r0 : Bool → Option α) : Option α :=
  spec_l01Fits k x fun v =>
  bif (!v) then
    r0 false
  else
    spec_l01Fits k x1 fun v1 =>
    bif (!v1) then
      r0 false
    else
      spec_l01Fits k x2 fun v2 =>
      bif (!v2) then
        r0 false
      else
        spec_l06Disc k x x1 x2 fun v3 =>
        spec_l01In k v3 1 4000 fun v4 =>
        bif (!v4) then
          r0 false
        else
          spec_l06Root k v3 fun v5 =>
          r0 (!decide ((w64 (v5 * v5)) = v3))

/-- loop.example/g01297/spec.l06Reduced -/
def spec_l06Reduced {α : Type} (k : Nat) (x : Int) (x1 : Int) (x2 : Int) (w : Int) (r0 : Bool → Option α) : Option α :=
  bif decide (0 < x1) then
    bif decide (x1 ≤ w) then
      bif decide ((w64 (w - x1)) < (w64 (2 * (max x (w64 (0 - x)))))) then
        r0 (decide ((w64 (2 * (max x (w64 (0 - x))))) ≤ (w64 (w + x1))))
      else
        r0 false
    else
      r0 false
  else
    r0 false

/-- loop.example/g01297/spec.l01Rest -/
def spec_l01Rest {α : Type} (k : Nat) (n_ : Int) (x : Int) (r0 : Int → Option α) : Option α :=
  bif decide (n_ = 0) then
    none
  else
  bif decide (n_ = 0) then
    none
  else
    r0 (Int.tmod (w64 ((Int.tmod x n_) + n_)) n_)

/-- loop.example/g01297/spec.l06Next -/
def spec_l06Next {α : Type} (k : Nat) (x : Int) (x1 : Int) (x2 : Int) (d : Int) (w : Int) (r0 : Int → Int → Int → Option α) : Option α :=
  bif decide (w < (max x2 (w64 (0 - x2)))) then
    spec_l01Rest k (w64 (2 * (max x2 (w64 (0 - x2))))) (w64 ((max x2 (w64 (0 - x2))) + x1)) fun v =>
    bif decide ((w64 (4 * x2)) = 0) then
      none
    else
      r0 x2 (w64 ((max x2 (w64 (0 - x2))) - v)) (w64 (Int.tdiv (w64 ((w64 ((w64 ((max x2 (w64 (0 - x2))) - v)) * (w64 ((max x2 (w64 (0 - x2))) - v)))) - d)) (w64 (4 * x2))))
  else
    spec_l01Rest k (w64 (2 * (max x2 (w64 (0 - x2))))) (w64 (w + x1)) fun v1 =>
    bif decide ((w64 (4 * x2)) = 0) then
      none
    else
      r0 x2 (w64 (w - v1)) (w64 (Int.tdiv (w64 ((w64 ((w64 (w - v1)) * (w64 (w - v1)))) - d)) (w64 (4 * x2))))

def spec_l06Cycle_l3 {α : Type} : Nat → Int → Int → Int → Int → Int → (Int → Int → Int → Int → Int → Option α) → ((List (Int × Int × Int)) → Option α) → Option α
  | 0, _, _, _, _, _, _, _ => none
  | k + 1, d, w, x3, x4, x5, b0, r0 =>
    spec_l06Reduced k x3 x4 x5 w fun v2 =>
    bif (!v2) then
      spec_l06Next k x3 x4 x5 d w fun v3 v4 v5 =>
      spec_l06Cycle_l3 k d w v3 v4 v5 b0 r0
    else
      b0 d w x3 x4 x5

def spec_l06Cycle_l7 {α : Type} : Nat → Int → Int → Int → Int → Int → (List (Int × Int × Int)) → Int → Int → Int → (Int → Int → Int → Int → Int → (List (Int × Int × Int)) → Int → Int → Int → Option α) → ((List (Int × Int × Int)) → Option α) → Option α
  | 0, _, _, _, _, _, _, _, _, _, _, _ => none
  | k + 1, d2, w2, x9, x10, x11, out, now, now1, now2, b2, r0 =>
    bif (!(decide (now = x9) && (decide (now1 = x10) && decide (now2 = x11)))) then
      bif decide (((List.length out) + 1) ≤ big) then
        spec_l06Next k now now1 now2 d2 w2 fun v9 v10 v11 =>
        spec_l06Cycle_l7 k d2 w2 x9 x10 x11 (out ++ [(now, now1, now2)]) v9 v10 v11 b2 r0
      else
        none
    else
      b2 d2 w2 x9 x10 x11 out now now1 now2

/-- loop.example/g01297/spec.l06Cycle -/
def spec_l06Cycle {α : Type} (k : Nat) (x : Int) (x1 : Int) (x2 : Int) (r0 : (List (Int × Int × Int)) → Option α) : Option α :=
  spec_l06Disc k x x1 x2 fun v =>
  spec_l06Root k v fun v1 =>
  spec_l06Cycle_l3 k v v1 x x1 x2
    (fun d1 w1 x6 x7 x8 =>
      spec_l06Next k x6 x7 x8 d1 w1 fun v6 v7 v8 =>
      spec_l06Cycle_l7 k d1 w1 x6 x7 x8 [(x6, x7, x8)] v6 v7 v8
        (fun d3 w3 x12 x13 x14 out1 now3 now4 now5 =>
          r0 out1)
        r0)
    r0

/-- loop.example/g01297/spec.CycleOfForm -/
def spec_CycleOfForm {α : Type} (k : Nat) (x : Int) (x1 : Int) (x2 : Int) (r0 : Int → Option α) (r1 : (List (Int × Int × Int)) → Int → Option α) : Option α :=
  spec_l06Is k x x1 x2 fun v =>
  bif (!v) then
    r0 1
  else
    spec_l06Cycle k x x1 x2 fun v1 =>
    r1 v1 0

/-- loop.example/g01297/impl.in -/
def impl_in {α : Type} (k : Nat) (n_ : Int) (low : Int) (high : Int) (r0 : Bool → Option α) : Option α :=
  bif decide (low ≤ n_) then
    r0 (decide (n_ ≤ high))
  else
    r0 false

/-- loop.example/g01297/impl.isCoord -/
def impl_isCoord {α : Type} (k : Nat) (n_ : Int) (r0 : Bool → Option α) : Option α :=
  impl_in k n_ (-1000000) 1000000 fun v =>
  r0 v

/-- (loop.example/g01297/impl.Form).disc -/
def impl_Form_disc {α : Type} (k : Nat) (x : Int) (x1 : Int) (x2 : Int) (r0 : Int → Option α) : Option α :=
  r0 (w64 ((w64 (x1 * x1)) - (w64 ((w64 (4 * x)) * x2))))

def impl_root_l2 {α : Type} : Nat → Int → Int → (Int → Int → Option α) → (Int → Option α) → Option α
  | 0, _, _, _, _ => none
  | k + 1, d1, w, b0, r0 =>
    bif decide ((w64 ((w64 (w + 1)) * (w64 (w + 1)))) ≤ d1) then
      impl_root_l2 k d1 (w64 (w + 1)) b0 r0
    else
      b0 d1 w

/-- loop.example/g01297/impl.root -/
def impl_root {α : Type} (k : Nat) (d : Int) (r0 : Int → Option α) : Option α :=
  impl_root_l2 k d 0
    (fun d2 w1 =>
      r0 w1)
    r0

/-- loop.example/g01297/impl.discOk -/
def impl_discOk {α : Type} (k : Nat) (d : Int) (r0 : Bool → Option α) : Option α :=
  impl_in k d 1 4000 fun v =>
  bif v then
    impl_root k d fun v1 =>
    impl_root k d fun v2 =>
    r0 (!decide ((w64 (v1 * v2)) = d))
  else
    r0 false

/-- loop.example/g01297/impl.IsForm -/
def impl_IsForm {α : Type} (k : Nat) (x : Int) (x1 : Int) (x2 : Int) (r0 : Bool → Option α) : Option α :=
  impl_isCoord k x fun v =>
  bif v then
    impl_isCoord k x1 fun v1 =>
    bif v1 then
      impl_isCoord k x2 fun v2 =>
      bif v2 then
        impl_Form_disc k x x1 x2 fun v3 =>
        impl_discOk k v3 fun v4 =>
        r0 v4
      else
        r0 false
    else
      r0 false
  else
    r0 false

/-- loop.example/g01297/impl.size -/
def impl_size {α : Type} (k : Nat) (n_ : Int) (r0 : Int → Option α) : Option α :=
  r0 (max n_ (w64 (0 - n_)))

/-- (loop.example/g01297/impl.Form).reduced -/
def impl_Form_reduced {α : Type} (k : Nat) (x : Int) (x1 : Int) (x2 : Int) (r0 : Bool → Option α) : Option α :=
  impl_Form_disc k x x1 x2 fun v =>
  impl_root k v fun v1 =>
  impl_in k x1 1 v1 fun v2 =>
  bif v2 then
    impl_size k x fun v3 =>
    bif decide ((w64 (v1 - x1)) < (w64 (2 * v3))) then
      impl_size k x fun v4 =>
      r0 (decide ((w64 (2 * v4)) ≤ (w64 (v1 + x1))))
    else
      r0 false
  else
    r0 false

/-- loop.example/g01297/impl.floor -/
def impl_floor {α : Type} (k : Nat) (a : Int) (b_ : Int) (r0 : Int → Option α) : Option α :=
  bif decide (b_ = 0) then
    none
  else
  bif decide (b_ = 0) then
    none
  else
  bif (!decide ((Int.tmod a b_) = 0)) then
    bif (!(decide (a < 0) == decide (b_ < 0))) then
      r0 (w64 ((w64 (Int.tdiv a b_)) - 1))
    else
      r0 (w64 (Int.tdiv a b_))
  else
    r0 (w64 (Int.tdiv a b_))

/-- loop.example/g01297/impl.mod -/
def impl_mod {α : Type} (k : Nat) (a : Int) (b_ : Int) (r0 : Int → Option α) : Option α :=
  impl_floor k a b_ fun v =>
  r0 (w64 (a - (w64 (b_ * v))))

/-- (loop.example/g01297/impl.Form).next -/
def impl_Form_next {α : Type} (k : Nat) (x : Int) (x1 : Int) (x2 : Int) (r0 : Int → Int → Int → Option α) : Option α :=
  impl_Form_disc k x x1 x2 fun v =>
  impl_size k x2 fun v1 =>
  impl_root k v fun v2 =>
  bif decide (v2 < v1) then
    impl_mod k (w64 ((w64 (0 - x1)) - (w64 (1 - v1)))) (w64 (2 * v1)) fun v3 =>
    bif decide ((w64 (4 * x2)) = 0) then
      none
    else
      r0 x2 (w64 ((w64 (1 - v1)) + v3)) (w64 (Int.tdiv (w64 ((w64 ((w64 ((w64 (1 - v1)) + v3)) * (w64 ((w64 (1 - v1)) + v3)))) - v)) (w64 (4 * x2))))
  else
    impl_mod k (w64 ((w64 (0 - x1)) - (w64 ((w64 (v2 - (w64 (2 * v1)))) + 1)))) (w64 (2 * v1)) fun v4 =>
    bif decide ((w64 (4 * x2)) = 0) then
      none
    else
      r0 x2 (w64 ((w64 ((w64 (v2 - (w64 (2 * v1)))) + 1)) + v4)) (w64 (Int.tdiv (w64 ((w64 ((w64 ((w64 ((w64 (v2 - (w64 (2 * v1)))) + 1)) + v4)) * (w64 ((w64 ((w64 (v2 - (w64 (2 * v1)))) + 1)) + v4)))) - v)) (w64 (4 * x2))))

def impl_Form_cycle_l1 {α : Type} : Nat → Int → Int → Int → (Int → Int → Int → Option α) → ((List (Int × Int × Int)) → Option α) → Option α
  | 0, _, _, _, _, _ => none
  | k + 1, x3, x4, x5, b0, r0 =>
    impl_Form_reduced k x3 x4 x5 fun v =>
    bif (!v) then
      impl_Form_next k x3 x4 x5 fun v1 v2 v3 =>
      impl_Form_cycle_l1 k v1 v2 v3 b0 r0
    else
      b0 x3 x4 x5

def impl_Form_cycle_l5 {α : Type} : Nat → Int → Int → Int → (List (Int × Int × Int)) → Int → Int → Int → (Int → Int → Int → (List (Int × Int × Int)) → Int → Int → Int → Option α) → ((List (Int × Int × Int)) → Option α) → Option α
  | 0, _, _, _, _, _, _, _, _, _ => none
  | k + 1, x9, x10, x11, out, y, y1, y2, b2, r0 =>
    bif (!(decide (y = x9) && (decide (y1 = x10) && decide (y2 = x11)))) then
      bif decide (((List.length out) + 1) ≤ big) then
        impl_Form_next k y y1 y2 fun v7 v8 v9 =>
        impl_Form_cycle_l5 k x9 x10 x11 (out ++ [(y, y1, y2)]) v7 v8 v9 b2 r0
      else
        none
    else
      b2 x9 x10 x11 out y y1 y2

/-- (loop.example/g01297/impl.Form).cycle -/
def impl_Form_cycle {α : Type} (k : Nat) (x : Int) (x1 : Int) (x2 : Int) (r0 : (List (Int × Int × Int)) → Option α) : Option α :=
  impl_Form_cycle_l1 k x x1 x2
    (fun x6 x7 x8 =>
      impl_Form_next k x6 x7 x8 fun v4 v5 v6 =>
      impl_Form_cycle_l5 k x6 x7 x8 [(x6, x7, x8)] v4 v5 v6
        (fun x12 x13 x14 out1 y3 y4 y5 =>
          r0 out1)
        r0)
    r0

/-- loop.example/g01297/impl.CycleOfForm -/
def impl_CycleOfForm {α : Type} (k : Nat) (x : Int) (x1 : Int) (x2 : Int) (r0 : Int → Option α) (r1 : (List (Int × Int × Int)) → Int → Option α) : Option α :=
  impl_IsForm k x x1 x2 fun v =>
  bif (!v) then
    r0 1
  else
    impl_Form_cycle k x x1 x2 fun v1 =>
    r1 v1 0

/-- loop.example/g01297/laws.eqFormS -/
def laws_eqFormS_0N_1N {α : Type} (k : Nat)  (r0 : Bool → Option α) : Option α :=
  r0 true

/-- loop.example/g01297/laws.markFormS -/
def laws_markFormS_0N {α : Type} (k : Nat) (k_ : Int) (r0 : Int → Option α) : Option α :=
  r0 k_

/-- loop.example/g01297/laws.heldFormS -/
def laws_heldFormS_0N {α : Type} (k : Nat) (k_ : Int) (r0 : Int → Option α) : Option α :=
  r0 k_

def laws_eqFormS_1N_l4 {α : Type} : Nat → Int → (List (Int × Int × Int)) → (Int → (List (Int × Int × Int)) → Option α) → (Bool → Option α) → Option α
  | 0, _, _, _, _ => none
  | k + 1, i, a1, b0, r0 =>
    bif decide (i < (((List.length a1) : Nat) : Int)) then
      bif (decide (0 ≤ i) && decide (i < (((List.length a1) : Nat) : Int))) then
        (a1[i.toNat]?).bind fun e_ =>
        none
      else
        none
    else
      b0 i a1

/-- loop.example/g01297/laws.eqFormS -/
def laws_eqFormS_1N {α : Type} (k : Nat) (a : List (Int × Int × Int)) (r0 : Bool → Option α) : Option α :=
  bif (!decide ((((List.length a) : Nat) : Int) = 0)) then
    r0 false
  else
    laws_eqFormS_1N_l4 k 0 a
      (fun i1 a2 =>
        r0 true)
      r0

def laws_markFormS_l2 {α : Type} : Nat → Int → Int → (List (Int × Int × Int)) → (Int → Int → (List (Int × Int × Int)) → Option α) → (Int → (List (Int × Int × Int)) → Option α) → Option α
  | 0, _, _, _, _, _ => none
  | k + 1, k_1, i, a1, b0, r0 =>
    bif decide (i < (((List.length a1) : Nat) : Int)) then
      bif (decide (0 ≤ i) && decide (i < (((List.length a1) : Nat) : Int))) then
        (a1[i.toNat]?).bind fun e_ =>
        bif (decide (0 ≤ i) && decide (i < (((List.length (List.set a1 i.toNat (k_1, e_.2.1, e_.2.2))) : Nat) : Int))) then
          ((List.set a1 i.toNat (k_1, e_.2.1, e_.2.2))[i.toNat]?).bind fun e_1 =>
          bif (decide (0 ≤ i) && decide (i < (((List.length (List.set (List.set a1 i.toNat (k_1, e_.2.1, e_.2.2)) i.toNat (e_1.1, (w64 (k_1 + 1)), e_1.2.2))) : Nat) : Int))) then
            ((List.set (List.set a1 i.toNat (k_1, e_.2.1, e_.2.2)) i.toNat (e_1.1, (w64 (k_1 + 1)), e_1.2.2))[i.toNat]?).bind fun e_2 =>
            laws_markFormS_l2 k (w64 ((w64 ((w64 (k_1 + 1)) + 1)) + 1)) (w64 (i + 1)) (List.set (List.set (List.set a1 i.toNat (k_1, e_.2.1, e_.2.2)) i.toNat (e_1.1, (w64 (k_1 + 1)), e_1.2.2)) i.toNat (e_2.1, e_2.2.1, (w64 ((w64 (k_1 + 1)) + 1)))) b0 r0
          else
            none
        else
          none
      else
        none
    else
      b0 k_1 i a1

/-- loop.example/g01297/laws.markFormS -/
def laws_markFormS {α : Type} (k : Nat) (a : List (Int × Int × Int)) (k_ : Int) (r0 : Int → (List (Int × Int × Int)) → Option α) : Option α :=
  laws_markFormS_l2 k k_ 0 a
    (fun k_2 i1 a2 =>
      r0 k_2 a2)
    r0

def laws_heldFormS_l2 {α : Type} : Nat → Int → Int → (List (Int × Int × Int)) → (Int → Int → (List (Int × Int × Int)) → Option α) → (Int → Option α) → Option α
  | 0, _, _, _, _, _ => none
  | k + 1, k_1, i, a1, b0, r0 =>
    bif decide (i < (((List.length a1) : Nat) : Int)) then
      bif (decide (0 ≤ i) && decide (i < (((List.length a1) : Nat) : Int))) then
        (a1[i.toNat]?).bind fun e_ =>
        bif (!decide (e_.1 = k_1)) then
          r0 (-1)
        else
        bif (decide (0 ≤ i) && decide (i < (((List.length a1) : Nat) : Int))) then
          (a1[i.toNat]?).bind fun e_1 =>
          bif (!decide (e_1.2.1 = (w64 (k_1 + 1)))) then
            r0 (-1)
          else
          bif (decide (0 ≤ i) && decide (i < (((List.length a1) : Nat) : Int))) then
            (a1[i.toNat]?).bind fun e_2 =>
            bif (!decide (e_2.2.2 = (w64 ((w64 (k_1 + 1)) + 1)))) then
              r0 (-1)
            else
              laws_heldFormS_l2 k (w64 ((w64 ((w64 (k_1 + 1)) + 1)) + 1)) (w64 (i + 1)) a1 b0 r0
          else
            none
        else
          none
      else
        none
    else
      b0 k_1 i a1

/-- loop.example/g01297/laws.heldFormS -/
def laws_heldFormS {α : Type} (k : Nat) (a : List (Int × Int × Int)) (k_ : Int) (r0 : Int → Option α) : Option α :=
  laws_heldFormS_l2 k k_ 0 a
    (fun k_2 i1 a2 =>
      r0 k_2)
    r0

/-- loop.example/g01297/laws.eqFormS -/
def laws_eqFormS_0N {α : Type} (k : Nat) (b_ : List (Int × Int × Int)) (r0 : Bool → Option α) : Option α :=
  bif (!decide (0 = (((List.length b_) : Nat) : Int))) then
    r0 false
  else
    r0 true

/-- loop.example/g01297/laws.eqForm -/
def laws_eqForm {α : Type} (k : Nat) (a : Int) (a1 : Int) (a2 : Int) (b_ : Int) (b_1 : Int) (b_2 : Int) (r0 : Bool → Option α) : Option α :=
  bif (!decide (a = b_)) then
    r0 false
  else
  bif (!decide (a1 = b_1)) then
    r0 false
  else
  bif (!decide (a2 = b_2)) then
    r0 false
  else
    r0 true

def laws_eqFormS_l4 {α : Type} : Nat → Int → (List (Int × Int × Int)) → (List (Int × Int × Int)) → (Int → (List (Int × Int × Int)) → (List (Int × Int × Int)) → Option α) → (Bool → Option α) → Option α
  | 0, _, _, _, _, _ => none
  | k + 1, i, a1, b_1, b0, r0 =>
    bif decide (i < (((List.length a1) : Nat) : Int)) then
      bif (decide (0 ≤ i) && decide (i < (((List.length a1) : Nat) : Int))) then
        (a1[i.toNat]?).bind fun e_ =>
        bif (decide (0 ≤ i) && decide (i < (((List.length b_1) : Nat) : Int))) then
          (b_1[i.toNat]?).bind fun e_1 =>
          laws_eqForm k e_.1 e_.2.1 e_.2.2 e_1.1 e_1.2.1 e_1.2.2 fun v =>
          bif (!v) then
            r0 false
          else
            laws_eqFormS_l4 k (w64 (i + 1)) a1 b_1 b0 r0
        else
          none
      else
        none
    else
      b0 i a1 b_1

/-- loop.example/g01297/laws.eqFormS -/
def laws_eqFormS {α : Type} (k : Nat) (a : List (Int × Int × Int)) (b_ : List (Int × Int × Int)) (r0 : Bool → Option α) : Option α :=
  bif (!decide ((((List.length a) : Nat) : Int) = (((List.length b_) : Nat) : Int))) then
    r0 false
  else
    laws_eqFormS_l4 k 0 a b_
      (fun i1 a2 b_2 =>
        r0 true)
      r0

/-- loop.example/g01297/laws.FnExactCycleOfForm -/
def laws_FnExactCycleOfForm {α : Type} (k : Nat) (aX : Int) (aX1 : Int) (aX2 : Int) (r0 : Bool → Option α) : Option α :=
  laws_toForm k aX aX1 aX2 fun v v1 v2 =>
  spec_CycleOfForm k v v1 v2
    (fun v3 =>
      laws_toForm k aX aX1 aX2 fun v4 v5 v6 =>
      impl_CycleOfForm k v4 v5 v6
        (fun v7 =>
          laws_eqFormS_0N_1N k fun v8 =>
          bif (!v8) then
            r0 false
          else
          bif (!decide (v7 = v3)) then
            r0 false
          else
            laws_markFormS_0N k 1 fun v9 =>
            laws_heldFormS_0N k 1 fun v10 =>
            bif decide (v10 < 0) then
              r0 false
            else
            bif (!decide (v10 = v9)) then
              r0 false
            else
              laws_toForm k aX aX1 aX2 fun v11 v12 v13 =>
              impl_CycleOfForm k v11 v12 v13
                (fun v14 =>
                  laws_eqFormS_0N_1N k fun v15 =>
                  bif (!v15) then
                    r0 false
                  else
                  bif (!decide (v14 = v3)) then
                    r0 false
                  else
                    laws_heldFormS_0N k 1 fun v16 =>
                    bif decide (v16 < 0) then
                      r0 false
                    else
                    bif (!decide (v16 = v9)) then
                      r0 false
                    else
                      r0 true)
                (fun v17 v18 =>
                  laws_eqFormS_1N k v17 fun v19 =>
                  bif (!v19) then
                    r0 false
                  else
                  bif (!decide (v18 = v3)) then
                    r0 false
                  else
                    laws_heldFormS_0N k 1 fun v20 =>
                    bif decide (v20 < 0) then
                      r0 false
                    else
                    bif (!decide (v20 = v9)) then
                      r0 false
                    else
                      r0 true))
        (fun v21 v22 =>
          laws_eqFormS_1N k v21 fun v23 =>
          bif (!v23) then
            r0 false
          else
          bif (!decide (v22 = v3)) then
            r0 false
          else
            laws_markFormS k v21 1 fun v24 v25 =>
            laws_heldFormS k v25 1 fun v26 =>
            bif decide (v26 < 0) then
              r0 false
            else
            bif (!decide (v26 = v24)) then
              r0 false
            else
              laws_toForm k aX aX1 aX2 fun v27 v28 v29 =>
              impl_CycleOfForm k v27 v28 v29
                (fun v30 =>
                  laws_eqFormS_0N_1N k fun v31 =>
                  bif (!v31) then
                    r0 false
                  else
                  bif (!decide (v30 = v3)) then
                    r0 false
                  else
                    laws_heldFormS k v25 1 fun v32 =>
                    bif decide (v32 < 0) then
                      r0 false
                    else
                    bif (!decide (v32 = v24)) then
                      r0 false
                    else
                      r0 true)
                (fun v33 v34 =>
                  laws_eqFormS_1N k v33 fun v35 =>
                  bif (!v35) then
                    r0 false
                  else
                  bif (!decide (v34 = v3)) then
                    r0 false
                  else
                    laws_heldFormS k v25 1 fun v36 =>
                    bif decide (v36 < 0) then
                      r0 false
                    else
                    bif (!decide (v36 = v24)) then
                      r0 false
                    else
                      r0 true)))
    (fun v37 v38 =>
      laws_toForm k aX aX1 aX2 fun v39 v40 v41 =>
      impl_CycleOfForm k v39 v40 v41
        (fun v42 =>
          laws_eqFormS_0N k v37 fun v43 =>
          bif (!v43) then
            r0 false
          else
          bif (!decide (v42 = v38)) then
            r0 false
          else
            laws_markFormS_0N k 1 fun v44 =>
            laws_heldFormS_0N k 1 fun v45 =>
            bif decide (v45 < 0) then
              r0 false
            else
            bif (!decide (v45 = v44)) then
              r0 false
            else
              laws_toForm k aX aX1 aX2 fun v46 v47 v48 =>
              impl_CycleOfForm k v46 v47 v48
                (fun v49 =>
                  laws_eqFormS_0N k v37 fun v50 =>
                  bif (!v50) then
                    r0 false
                  else
                  bif (!decide (v49 = v38)) then
                    r0 false
                  else
                    laws_heldFormS_0N k 1 fun v51 =>
                    bif decide (v51 < 0) then
                      r0 false
                    else
                    bif (!decide (v51 = v44)) then
                      r0 false
                    else
                      r0 true)
                (fun v52 v53 =>
                  laws_eqFormS k v52 v37 fun v54 =>
                  bif (!v54) then
                    r0 false
                  else
                  bif (!decide (v53 = v38)) then
                    r0 false
                  else
                    laws_heldFormS_0N k 1 fun v55 =>
                    bif decide (v55 < 0) then
                      r0 false
                    else
                    bif (!decide (v55 = v44)) then
                      r0 false
                    else
                      r0 true))
        (fun v56 v57 =>
          laws_eqFormS k v56 v37 fun v58 =>
          bif (!v58) then
            r0 false
          else
          bif (!decide (v57 = v38)) then
            r0 false
          else
            laws_markFormS k v56 1 fun v59 v60 =>
            laws_heldFormS k v60 1 fun v61 =>
            bif decide (v61 < 0) then
              r0 false
            else
            bif (!decide (v61 = v59)) then
              r0 false
            else
              laws_toForm k aX aX1 aX2 fun v62 v63 v64 =>
              impl_CycleOfForm k v62 v63 v64
                (fun v65 =>
                  laws_eqFormS_0N k v37 fun v66 =>
                  bif (!v66) then
                    r0 false
                  else
                  bif (!decide (v65 = v38)) then
                    r0 false
                  else
                    laws_heldFormS k v60 1 fun v67 =>
                    bif decide (v67 < 0) then
                      r0 false
                    else
                    bif (!decide (v67 = v59)) then
                      r0 false
                    else
                      r0 true)
                (fun v68 v69 =>
                  laws_eqFormS k v68 v37 fun v70 =>
                  bif (!v70) then
                    r0 false
                  else
                  bif (!decide (v69 = v38)) then
                    r0 false
                  else
                    laws_heldFormS k v60 1 fun v71 =>
                    bif decide (v71 < 0) then
                      r0 false
                    else
                    bif (!decide (v71 = v59)) then
                      r0 false
                    else
                      r0 true)))

end Go.Sh
