/- The program's functions, read without memory: printed by a program of ours. -/
import Derived.Test.YtegnnbhphgeocaaMaB
namespace Go.Sh
open Go Go.Ev

/-- loop.example/g01297/laws.toForm -/
def laws_toForm {α : Type} (k : Nat) (a : Int) (a1 : Int) (a2 : Int) (r0 : Int → Int → Int → Option α) : Option α :=
  r0 a a1 a2

/-- loop.example/g01297/spec.l01In -/
def spec_l01In {α : Type} (k : Nat) (n_ : Int) (low : Int) (high : Int) (r0 : Bool → Option α) : Option α :=
  bif decide (low ≤ n_) then
    r0 (decide (n_ ≤ high))
  else
    r0 false

/-- loop.example/g01297/spec.l01Fits -/
def spec_l01Fits {α : Type} (k : Nat) (x : Int) (r0 : Bool → Option α) : Option α :=
  spec_l01In k x (-1000000) 1000000 fun v =>
  r0 v

/-- loop.example/g01297/spec.l06Disc -/
def spec_l06Disc {α : Type} (k : Nat) (x : Int) (x1 : Int) (x2 : Int) (r0 : Int → Option α) : Option α :=
  r0 (w64 ((w64 (x1 * x1)) - (w64 ((w64 (4 * x)) * x2))))

def spec_l06Root_l2 {α : Type} : Nat → Int → Int → (Int → Int → Option α) → (Int → Option α) → Option α
  | 0, _, _, _, _ => none
  | k + 1, d1, w, b0, r0 =>
    bif decide ((w64 ((w64 (w + 1)) * (w64 (w + 1)))) ≤ d1) then
      spec_l06Root_l2 k d1 (w64 (w + 1)) b0 r0
    else
      b0 d1 w

/-- loop.example/g01297/spec.l06Root -/
def spec_l06Root {α : Type} (k : Nat) (d : Int) (r0 : Int → Option α) : Option α :=
  spec_l06Root_l2 k d 0
    (fun d2 w1 =>
      r0 w1)
    r0

/-- loop.example/g01297/spec.l06Is -/
def spec_l06Is {α : Type} (k : Nat) (x : Int) (x1 : Int) (x2 : Int) (r0 : Bool → Option α) : Option α :=
  spec_l01Fits k x fun v =>
  bif (!v) then
    r0 false
  else
    spec_l01Fits k x1 fun v1 =>
    bif (!v1) then
      r0 false
    else
      spec_l01Fits k x2 fun v2 =>
      bif (!v2) then
        r0 false
      else
        spec_l06Disc k x x1 x2 fun v3 =>
        spec_l01In k v3 1 4000 fun v4 =>
        bif (!v4) then
          r0 false
        else
          spec_l06Root k v3 fun v5 =>
          r0 (!decide ((w64 (v5 * v5)) = v3))

/-- loop.example/g01297/spec.l06Reduced -/
def spec_l06Reduced {α : Type} (k : Nat) (x : Int) (x1 : Int) (x2 : Int) (w : Int) (r0 : Bool → Option α) : Option α :=
  bif decide (0 < x1) then
    bif decide (x1 ≤ w) then
      bif decide ((w64 (w - x1)) < (w64 (2 * (max x (w64 (0 - x)))))) then
        r0 (decide ((w64 (2 * (max x (w64 (0 - x))))) ≤ (w64 (w + x1))))
      else
        r0 false
    else
      r0 false
  else
    r0 false

/-- loop.example/g01297/spec.IsReducedForm -/
def spec_IsReducedForm {α : Type} (k : Nat) (x : Int) (x1 : Int) (x2 : Int) (r0 : Bool → Int → Option α) : Option α :=
  spec_l06Is k x x1 x2 fun v =>
  bif (!v) then
    r0 false 1
  else
    spec_l06Disc k x x1 x2 fun v1 =>
    spec_l06Root k v1 fun v2 =>
    spec_l06Reduced k x x1 x2 v2 fun v3 =>
    r0 v3 0

/-- loop.example/g01297/impl.in -/
def impl_in {α : Type} (k : Nat) (n_ : Int) (low : Int) (high : Int) (r0 : Bool → Option α) : Option α :=
  bif decide (low ≤ n_) then
    r0 (decide (n_ ≤ high))
  else
    r0 false

/-- loop.example/g01297/impl.isCoord -/
def impl_isCoord {α : Type} (k : Nat) (n_ : Int) (r0 : Bool → Option α) : Option α :=
  impl_in k n_ (-1000000) 1000000 fun v =>
  r0 v

/-- (loop.example/g01297/impl.Form).disc -/
def impl_Form_disc {α : Type} (k : Nat) (x : Int) (x1 : Int) (x2 : Int) (r0 : Int → Option α) : Option α :=
  r0 (w64 ((w64 (x1 * x1)) - (w64 ((w64 (4 * x)) * x2))))

def impl_root_l2 {α : Type} : Nat → Int → Int → (Int → Int → Option α) → (Int → Option α) → Option α
  | 0, _, _, _, _ => none
  | k + 1, d1, w, b0, r0 =>
    bif decide ((w64 ((w64 (w + 1)) * (w64 (w + 1)))) ≤ d1) then
      impl_root_l2 k d1 (w64 (w + 1)) b0 r0
    else
      b0 d1 w

/-- loop.example/g01297/impl.root -/
def impl_root {α : Type} (k : Nat) (d : Int) (r0 : Int → Option α) : Option α :=
  impl_root_l2 k d 0
    (fun d2 w1 =>
      r0 w1)
    r0

/-- loop.example/g01297/impl.discOk -/
def impl_discOk {α : Type} (k : Nat) (d : Int) (r0 : Bool → Option α) : Option α :=
  impl_in k d 1 4000 fun v =>
  bif v then
    impl_root k d fun v1 =>
    impl_root k d fun v2 =>
    r0 (!decide ((w64 (v1 * v2)) = d))
  else
    r0 false

/-- loop.example/g01297/impl.IsForm -/
def impl_IsForm {α : Type} (k : Nat) (x : Int) (x1 : Int) (x2 : Int) (r0 : Bool → Option α) : Option α :=
  impl_isCoord k x fun v =>
  bif v then
    impl_isCoord k x1 fun v1 =>
    bif v1 then
      impl_isCoord k x2 fun v2 =>
      bif v2 then
        impl_Form_disc k x x1 x2 fun v3 =>
        impl_discOk k v3 fun v4 =>
        r0 v4
      else
        r0 false
    else
      r0 false
  else
    r0 false

/-- loop.example/g01297/impl.size -/
def impl_size {α : Type} (k : Nat) (n_ : Int) (r0 : Int → Option α) : Option α :=
  r0 (max n_ (w64 (0 - n_)))

/-- (loop.example/g01297/impl.Form).reduced -/
def impl_Form_reduced {α : Type} (k : Nat) (x : Int) (x1 : Int) (x2 : Int) (r0 : Bool → Option α) : Option α :=
  impl_Form_disc k x x1 x2 fun v =>
  impl_root k v fun v1 =>
  impl_in k x1 1 v1 fun v2 =>
  bif v2 then
    impl_size k x fun v3 =>
    bif decide ((w64 (v1 - x1)) < (w64 (2 * v3))) then
      impl_size k x fun v4 =>
      r0 (decide ((w64 (2 * v4)) ≤ (w64 (v1 + x1))))
    else
      r0 false
  else
    r0 false

/-- loop.example/g01297/impl.IsReducedForm -/
def impl_IsReducedForm {α : Type} (k : Nat) (x : Int) (x1 : Int) (x2 : Int) (r0 : Bool → Int → Option α) : Option α :=
  impl_IsForm k x x1 x2 fun v =>
  bif (!v) then
    r0 false 1
  else
    impl_Form_reduced k x x1 x2 fun v1 =>
    r0 v1 0

/-- loop.example/g01297/laws.FnExactIsReducedForm -/
def laws_FnExactIsReducedForm {α : Type} (k : Nat) (aX : Int) (aX1 : Int) (aX2 : Int) (r0 : Bool → Option α) : Option α :=
  laws_toForm k aX aX1 aX2 fun v v1 v2 =>
  spec_IsReducedForm k v v1 v2 fun v3 v4 =>
  laws_toForm k aX aX1 aX2 fun v5 v6 v7 =>
  impl_IsReducedForm k v5 v6 v7 fun v8 v9 =>
  bif (!(v8 == v3)) then
    r0 false
  else
  bif (!decide (v9 = v4)) then
    r0 false
  else
    r0 true

end Go.Sh
