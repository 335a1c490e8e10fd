/- The program's functions, read without memory: printed by a program of ours. -/
import Derived.Test.YtegnnbhphgeocaaMaB
namespace Go.Sh
open Go Go.Ev

/-- loop.example/g01297/laws.toForm -/
def laws_toForm {α : Type} (k : Nat) (a : Int) (a1 : Int) (a2 : Int) (r0 : Int → Int → Int → Option α) : Option α :=
  r0 a a1 a2

/-- loop.example/g01297/spec.l01In -/
def spec_l01In {α : Type} (k : Nat) (n_ : Int) (low : Int) (high : Int) (r0 : Bool → Option α) : Option α :=
  bif decide (low ≤ n_) then
    r0 (decide (n_ ≤ high))
  else
    r0 false

/-- loop.example/g01297/spec.l01Fits -/
def spec_l01Fits {α : Type} (k : Nat) (x : Int) (r0 : Bool → Option α) : Option α :=
  spec_l01In k x (-1000000) 1000000 fun v =>
  r0 v

/-- loop.example/g01297/spec.l06Disc -/
def spec_l06Disc {α : Type} (k : Nat) (x : Int) (x1 : Int) (x2 : Int) (r0 : Int → Option α) : Option α :=
  r0 (w64 ((w64 (x1 * x1)) - (w64 ((w64 (4 * x)) * x2))))

def spec_l06Root_l2 {α : Type} : Nat → Int → Int → (Int → Int → Option α) → (Int → Option α) → Option α
  | 0, _, _, _, _ => none
  | k + 1, d1, w, b0, r0 =>
    bif decide ((w64 ((w64 (w + 1)) * (w64 (w + 1)))) ≤ d1) then
      spec_l06Root_l2 k d1 (w64 (w + 1)) b0 r0
    else
      b0 d1 w

/-- loop.example/g01297/spec.l06Root -/
def spec_l06Root {α : Type} (k : Nat) (d : Int) (r0 : Int → Option α) : Option α :=
  spec_l06Root_l2 k d 0
    (fun d2 w1 =>
      r0 w1)
    r0

/-- loop.example/g01297/spec.l06Is -/
def spec_l06Is {α : Type} (k : Nat) (x : Int) (x1 : Int) (x2 : Int) (r0 : Bool → Option α) : Option α :=
  spec_l01Fits k x fun v =>
  bif (!v) then
    r0 false
  else
    spec_l01Fits k x1 fun v1 =>
    bif (!v1) then
      r0 false
    else
      spec_l01Fits k x2 fun v2 =>
      bif (!v2) then
        r0 false
      else
        spec_l06Disc k x x1 x2 fun v3 =>
        spec_l01In k v3 1 4000 fun v4 =>
        bif (!v4) then
          r0 false
        else
          spec_l06Root k v3 fun v5 =>
          r0 (!decide ((w64 (v5 * v5)) = v3))

/-- loop.example/g01297/spec.l01Rest -/
def spec_l01Rest {α : Type} (k : Nat) (n_ : Int) (x : Int) (r0 : Int → Option α) : Option α :=
  bif decide (n_ = 0) then
    none
  else
  bif decide (n_ = 0) then
    none
  else
    r0 (Int.tmod (w64 ((Int.tmod x n_) + n_)) n_)

/-- loop.example/g01297/spec.l06Next -/
def spec_l06Next {α : Type} (k : Nat) (x : Int) (x1 : Int) (x2 : Int) (d : Int) (w : Int) (r0 : Int → Int → Int → Option α) : Option α :=
  bif decide (w < (max x2 (w64 (0 - x2)))) then
    spec_l01Rest k (w64 (2 * (max x2 (w64 (0 - x2))))) (w64 ((max x2 (w64 (0 - x2))) + x1)) fun v =>
    bif decide ((w64 (4 * x2)) = 0) then
      none
    else
      r0 x2 (w64 ((max x2 (w64 (0 - x2))) - v)) (w64 (Int.tdiv (w64 ((w64 ((w64 ((max x2 (w64 (0 - x2))) - v)) * (w64 ((max x2 (w64 (0 - x2))) - v)))) - d)) (w64 (4 * x2))))
  else
    spec_l01Rest k (w64 (2 * (max x2 (w64 (0 - x2))))) (w64 (w + x1)) fun v1 =>
    bif decide ((w64 (4 * x2)) = 0) then
      none
    else
      r0 x2 (w64 (w - v1)) (w64 (Int.tdiv (w64 ((w64 ((w64 (w - v1)) * (w64 (w - v1)))) - d)) (w64 (4 * x2))))

/-- loop.example/g01297/spec.NextForm -/
def spec_NextForm {α : Type} (k : Nat) (x : Int) (x1 : Int) (x2 : Int) (r0 : Int → Int → Int → Int → Option α) : Option α :=
  spec_l06Is k x x1 x2 fun v =>
  bif (!v) then
    r0 0 0 0 1
  else
    spec_l06Disc k x x1 x2 fun v1 =>
    spec_l06Root k v1 fun v2 =>
    spec_l06Next k x x1 x2 v1 v2 fun v3 v4 v5 =>
    r0 v3 v4 v5 0

/-- loop.example/g01297/impl.in -/
def impl_in {α : Type} (k : Nat) (n_ : Int) (low : Int) (high : Int) (r0 : Bool → Option α) : Option α :=
  bif decide (low ≤ n_) then
    r0 (decide (n_ ≤ high))
  else
    r0 false

/-- loop.example/g01297/impl.isCoord -/
def impl_isCoord {α : Type} (k : Nat) (n_ : Int) (r0 : Bool → Option α) : Option α :=
  impl_in k n_ (-1000000) 1000000 fun v =>
  r0 v

/-- (loop.example/g01297/impl.Form).disc -/
def impl_Form_disc {α : Type} (k : Nat) (x : Int) (x1 : Int) (x2 : Int) (r0 : Int → Option α) : Option α :=
  r0 (w64 ((w64 (x1 * x1)) - (w64 ((w64 (4 * x)) * x2))))

def impl_root_l2 {α : Type} : Nat → Int → Int → (Int → Int → Option α) → (Int → Option α) → Option α
  | 0, _, _, _, _ => none
  | k + 1, d1, w, b0, r0 =>
    bif decide ((w64 ((w64 (w + 1)) * (w64 (w + 1)))) ≤ d1) then
      impl_root_l2 k d1 (w64 (w + 1)) b0 r0
    else
      b0 d1 w

/-- loop.example/g01297/impl.root -/
def impl_root {α : Type} (k : Nat) (d : Int) (r0 : Int → Option α) : Option α :=
  impl_root_l2 k d 0
    (fun d2 w1 =>
      r0 w1)
    r0

/-- loop.example/g01297/impl.discOk -/
def impl_discOk {α : Type} (k : Nat) (d : Int) (r0 : Bool → Option α) : Option α :=
  impl_in k d 1 4000 fun v =>
  bif v then
    impl_root k d fun v1 =>
    impl_root k d fun v2 =>
    r0 (!decide ((w64 (v1 * v2)) = d))
  else
    r0 false

/-- loop.example/g01297/impl.IsForm -/
def impl_IsForm {α : Type} (k : Nat) (x : Int) (x1 : Int) (x2 : Int) (r0 : Bool → Option α) : Option α :=
  impl_isCoord k x fun v =>
  bif v then
    impl_isCoord k x1 fun v1 =>
    bif v1 then
      impl_isCoord k x2 fun v2 =>
      bif v2 then
        impl_Form_disc k x x1 x2 fun v3 =>
        impl_discOk k v3 fun v4 =>
        r0 v4
      else
        r0 false
    else
      r0 false
  else
    r0 false

/-- loop.example/g01297/impl.size -/
def impl_size {α : Type} (k : Nat) (n_ : Int) (r0 : Int → Option α) : Option α :=
  r0 (max n_ (w64 (0 - n_)))

/-- loop.example/g01297/impl.floor -/
def impl_floor {α : Type} (k : Nat) (a : Int) (b_ : Int) (r0 : Int → Option α) : Option α :=
  bif decide (b_ = 0) then
    none
  else
  bif decide (b_ = 0) then
    none
  else
  bif (!decide ((Int.tmod a b_) = 0)) then
    bif (!(decide (a < 0) == decide (b_ < 0))) then
      r0 (w64 ((w64 (Int.tdiv a b_)) - 1))
    else
      r0 (w64 (Int.tdiv a b_))
  else
    r0 (w64 (Int.tdiv a b_))

/-- loop.example/g01297/impl.mod -/
def impl_mod {α : Type} (k : Nat) (a : Int) (b_ : Int) (r0 : Int → Option α) : Option α :=
  impl_floor k a b_ fun v =>
  r0 (w64 (a - (w64 (b_ * v))))

/-- (loop.example/g01297/impl.Form).next -/
def impl_Form_next {α : Type} (k : Nat) (x : Int) (x1 : Int) (x2 : Int) (r0 : Int → Int → Int → Option α) : Option α :=
  impl_Form_disc k x x1 x2 fun v =>
  impl_size k x2 fun v1 =>
  impl_root k v fun v2 =>
  bif decide (v2 < v1) then
    impl_mod k (w64 ((w64 (0 - x1)) - (w64 (1 - v1)))) (w64 (2 * v1)) fun v3 =>
    bif decide ((w64 (4 * x2)) = 0) then
      none
    else
      r0 x2 (w64 ((w64 (1 - v1)) + v3)) (w64 (Int.tdiv (w64 ((w64 ((w64 ((w64 (1 - v1)) + v3)) * (w64 ((w64 (1 - v1)) + v3)))) - v)) (w64 (4 * x2))))
  else
    impl_mod k (w64 ((w64 (0 - x1)) - (w64 ((w64 (v2 - (w64 (2 * v1)))) + 1)))) (w64 (2 * v1)) fun v4 =>
    bif decide ((w64 (4 * x2)) = 0) then
      none
    else
      r0 x2 (w64 ((w64 ((w64 (v2 - (w64 (2 * v1)))) + 1)) + v4)) (w64 (Int.tdiv (w64 ((w64 ((w64 ((w64 ((w64 (v2 - (w64 (2 * v1)))) + 1)) + v4)) * (w64 ((w64 ((w64 (v2 - (w64 (2 * v1)))) + 1)) + v4)))) - v)) (w64 (4 * x2))))

/-- loop.example/g01297/impl.NextForm -/
def impl_NextForm {α : Type} (k : Nat) (x : Int) (x1 : Int) (x2 : Int) (r0 : Int → Int → Int → Int → Option α) : Option α :=
  impl_IsForm k x x1 x2 fun v =>
  bif (!v) then
    r0 0 0 0 1
  else
    impl_Form_next k x x1 x2 fun v1 v2 v3 =>
    r0 v1 v2 v3 0

/-- loop.example/g01297/laws.eqForm -/
def laws_eqForm {α : Type} (k : Nat) (a : Int) (a1 : Int) (a2 : Int) (b_ : Int) (b_1 : Int) (b_2 : Int) (r0 : Bool → Option α) : Option α :=
  bif (!decide (a = b_)) then
    r0 false
  else
  bif (!decide (a1 = b_1)) then
    r0 false
  else
  bif (!decide (a2 = b_2)) then
    r0 false
  else
    r0 true

/-- loop.example/g01297/laws.FnExactNextForm -/
def laws_FnExactNextForm {α : Type} (k : Nat) (aX : Int) (aX1 : Int) (aX2 : Int) (r0 : Bool → Option α) : Option α :=
  laws_toForm k aX aX1 aX2 fun v v1 v2 =>
  spec_NextForm k v v1 v2 fun v3 v4 v5 v6 =>
  laws_toForm k aX aX1 aX2 fun v7 v8 v9 =>
  impl_NextForm k v7 v8 v9 fun v10 v11 v12 v13 =>
  laws_eqForm k v10 v11 v12 v3 v4 v5 fun v14 =>
  bif (!v14) then
    r0 false
  else
  bif (!decide (v13 = v6)) then
    r0 false
  else
    r0 true

end Go.Sh
