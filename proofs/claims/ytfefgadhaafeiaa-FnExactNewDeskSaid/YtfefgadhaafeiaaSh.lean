/- The program's functions, read without memory: printed by a program of ours. -/
import Derived.Test.YtfefgadhaafeiaaEvDefs
namespace Go.Sh
open Go Go.Ev
abbrev w64 (n : Int) : Int := IntKind.i64.wrap n

/-- loop.example/g01297/laws.toPoint -/
def laws_toPoint {α : Type} (k : Nat) (a : Int) (a1 : Int) (r0 : Int → Int → Option α) : Option α :=
  r0 a a1

/-- loop.example/g01297/spec.l01In -/
def spec_l01In {α : Type} (k : Nat) (n_ : Int) (low : Int) (high : Int) (r0 : Bool → Option α) : Option α :=
  bif decide (low ≤ n_) then
    r0 (decide (n_ ≤ high))
  else
    r0 false

/-- loop.example/g01297/spec.l01Fits -/
def spec_l01Fits {α : Type} (k : Nat) (x : Int) (r0 : Bool → Option α) : Option α :=
  spec_l01In k x (-1000000) 1000000 fun v =>
  r0 v

/-- loop.example/g01297/spec.l01Is -/
def spec_l01Is {α : Type} (k : Nat) (a : Int) (a1 : Int) (r0 : Bool → Option α) : Option α :=
  spec_l01Fits k a fun v =>
  bif v then
    spec_l01Fits k a1 fun v1 =>
    r0 v1
  else
    r0 false

/-- loop.example/g01297/spec.l10Dot -/
def spec_l10Dot {α : Type} (k : Nat) (a : Int) (a1 : Int) (b_ : Int) (b_1 : Int) (r0 : Int → Option α) : Option α :=
  r0 (w64 ((w64 (a * b_)) + (w64 (a1 * b_1))))

/-- loop.example/g01297/spec.NormOf -/
def spec_NormOf {α : Type} (k : Nat) (a : Int) (a1 : Int) (r0 : Int → Int → Option α) : Option α :=
  spec_l01Is k a a1 fun v =>
  bif (!v) then
    r0 0 1
  else
    spec_l10Dot k a a1 a a1 fun v1 =>
    r0 v1 0

/-- loop.example/g01297/impl.in -/
def impl_in {α : Type} (k : Nat) (n_ : Int) (low : Int) (high : Int) (r0 : Bool → Option α) : Option α :=
  bif decide (low ≤ n_) then
    r0 (decide (n_ ≤ high))
  else
    r0 false

/-- loop.example/g01297/impl.isCoord -/
def impl_isCoord {α : Type} (k : Nat) (n_ : Int) (r0 : Bool → Option α) : Option α :=
  impl_in k n_ (-1000000) 1000000 fun v =>
  r0 v

/-- loop.example/g01297/impl.IsPoint -/
def impl_IsPoint {α : Type} (k : Nat) (a : Int) (a1 : Int) (r0 : Bool → Option α) : Option α :=
  impl_isCoord k a fun v =>
  bif v then
    impl_isCoord k a1 fun v1 =>
    r0 v1
  else
    r0 false

/-- loop.example/g01297/impl.dot -/
def impl_dot {α : Type} (k : Nat) (a : Int) (a1 : Int) (b_ : Int) (b_1 : Int) (r0 : Int → Option α) : Option α :=
  r0 (w64 ((w64 (a * b_)) + (w64 (a1 * b_1))))

/-- (loop.example/g01297/impl.Point).norm -/
def impl_Point_norm {α : Type} (k : Nat) (a : Int) (a1 : Int) (r0 : Int → Option α) : Option α :=
  impl_dot k a a1 a a1 fun v =>
  r0 v

/-- loop.example/g01297/impl.NormOf -/
def impl_NormOf {α : Type} (k : Nat) (a : Int) (a1 : Int) (r0 : Int → Int → Option α) : Option α :=
  impl_IsPoint k a a1 fun v =>
  bif (!v) then
    r0 0 1
  else
    impl_Point_norm k a a1 fun v1 =>
    r0 v1 0

/-- loop.example/g01297/laws.FnExactNormOf -/
def laws_FnExactNormOf {α : Type} (k : Nat) (aA : Int) (aA1 : Int) (r0 : Bool → Option α) : Option α :=
  laws_toPoint k aA aA1 fun v v1 =>
  spec_NormOf k v v1 fun v2 v3 =>
  laws_toPoint k aA aA1 fun v4 v5 =>
  impl_NormOf k v4 v5 fun v6 v7 =>
  bif (!decide (v6 = v2)) then
    r0 false
  else
  bif (!decide (v7 = v3)) then
    r0 false
  else
    r0 true

/-- loop.example/g01297/spec.l10Ratio -/
def spec_l10Ratio {α : Type} (k : Nat) (p_ : Int) (q_ : Int) (low : Int) (r0 : Bool → Option α) : Option α :=
  spec_l01Fits k p_ fun v =>
  bif v then
    spec_l01In k q_ low 1000000 fun v1 =>
    r0 v1
  else
    r0 false

/-- loop.example/g01297/spec.l01Rest -/
def spec_l01Rest {α : Type} (k : Nat) (n_ : Int) (x : Int) (r0 : Int → Option α) : Option α :=
  bif decide (n_ = 0) then
    none
  else
  bif decide (n_ = 0) then
    none
  else
    r0 (Int.tmod (w64 ((Int.tmod x n_) + n_)) n_)

/-- loop.example/g01297/spec.PlaceOf -/
def spec_PlaceOf {α : Type} (k : Nat) (p_ : Int) (q_ : Int) (k_ : Int) (r0 : Int → Int → Option α) : Option α :=
  spec_l10Ratio k p_ q_ 2 fun v =>
  bif (!v) then
    r0 0 2
  else
    spec_l01Fits k k_ fun v1 =>
    bif (!v1) then
      r0 0 2
    else
      spec_l01Rest k q_ (w64 (k_ * p_)) fun v2 =>
      r0 v2 0

/-- loop.example/g01297/impl.ratioOk -/
def impl_ratioOk {α : Type} (k : Nat) (p_ : Int) (q_ : Int) (r0 : Bool → Option α) : Option α :=
  impl_isCoord k p_ fun v =>
  bif v then
    impl_in k q_ 1 1000000 fun v1 =>
    r0 v1
  else
    r0 false

/-- loop.example/g01297/impl.placesOk -/
def impl_placesOk {α : Type} (k : Nat) (p_ : Int) (q_ : Int) (r0 : Bool → Option α) : Option α :=
  impl_ratioOk k p_ q_ fun v =>
  bif v then
    r0 (decide (2 ≤ q_))
  else
    r0 false

/-- loop.example/g01297/impl.floor -/
def impl_floor {α : Type} (k : Nat) (a : Int) (b_ : Int) (r0 : Int → Option α) : Option α :=
  bif decide (b_ = 0) then
    none
  else
  bif decide (b_ = 0) then
    none
  else
  bif (!decide ((Int.tmod a b_) = 0)) then
    bif (!(decide (a < 0) == decide (b_ < 0))) then
      r0 (w64 ((w64 (Int.tdiv a b_)) - 1))
    else
      r0 (w64 (Int.tdiv a b_))
  else
    r0 (w64 (Int.tdiv a b_))

/-- loop.example/g01297/impl.mod -/
def impl_mod {α : Type} (k : Nat) (a : Int) (b_ : Int) (r0 : Int → Option α) : Option α :=
  impl_floor k a b_ fun v =>
  r0 (w64 (a - (w64 (b_ * v))))

/-- loop.example/g01297/impl.PlaceOf -/
def impl_PlaceOf {α : Type} (k : Nat) (p_ : Int) (q_ : Int) (k_ : Int) (r0 : Int → Int → Option α) : Option α :=
  impl_placesOk k p_ q_ fun v =>
  bif (!v) then
    r0 0 2
  else
    impl_isCoord k k_ fun v1 =>
    bif (!v1) then
      r0 0 2
    else
      impl_mod k (w64 (k_ * p_)) q_ fun v2 =>
      r0 v2 0

/-- loop.example/g01297/laws.FnExactPlaceOf -/
def laws_FnExactPlaceOf {α : Type} (k : Nat) (aP : Int) (aQ : Int) (aK : Int) (r0 : Bool → Option α) : Option α :=
  spec_PlaceOf k aP aQ aK fun v v1 =>
  impl_PlaceOf k aP aQ aK fun v2 v3 =>
  bif (!decide (v2 = v)) then
    r0 false
  else
  bif (!decide (v3 = v1)) then
    r0 false
  else
    r0 true

/-- loop.example/g01297/laws.toForm -/
def laws_toForm {α : Type} (k : Nat) (a : Int) (a1 : Int) (a2 : Int) (r0 : Int → Int → Int → Option α) : Option α :=
  r0 a a1 a2

/-- loop.example/g01297/spec.l06Disc -/
def spec_l06Disc {α : Type} (k : Nat) (x : Int) (x1 : Int) (x2 : Int) (r0 : Int → Option α) : Option α :=
  r0 (w64 ((w64 (x1 * x1)) - (w64 ((w64 (4 * x)) * x2))))

def spec_l06Root_l2 {α : Type} : Nat → Int → Int → (Int → Int → Option α) → (Int → Option α) → Option α
  | 0, _, _, _, _ => none
  | k + 1, d1, w, b0, r0 =>
    bif decide ((w64 ((w64 (w + 1)) * (w64 (w + 1)))) ≤ d1) then
      spec_l06Root_l2 k d1 (w64 (w + 1)) b0 r0
    else
      b0 d1 w

/-- loop.example/g01297/spec.l06Root -/
def spec_l06Root {α : Type} (k : Nat) (d : Int) (r0 : Int → Option α) : Option α :=
  spec_l06Root_l2 k d 0
    (fun d2 w1 =>
      r0 w1)
    r0

/-- loop.example/g01297/spec.l06Is -/
def spec_l06Is {α : Type} (k : Nat) (x : Int) (x1 : Int) (x2 : Int) (r0 : Bool → Option α) : Option α :=
  spec_l01Fits k x fun v =>
  bif (!v) then
    r0 false
  else
    spec_l01Fits k x1 fun v1 =>
    bif (!v1) then
      r0 false
    else
      spec_l01Fits k x2 fun v2 =>
      bif (!v2) then
        r0 false
      else
        spec_l06Disc k x x1 x2 fun v3 =>
        spec_l01In k v3 1 4000 fun v4 =>
        bif (!v4) then
          r0 false
        else
          spec_l06Root k v3 fun v5 =>
          r0 (!decide ((w64 (v5 * v5)) = v3))

/-- loop.example/g01297/spec.IsForm -/
def spec_IsForm {α : Type} (k : Nat) (x : Int) (x1 : Int) (x2 : Int) (r0 : Bool → Option α) : Option α :=
  spec_l06Is k x x1 x2 fun v =>
  r0 v

/-- (loop.example/g01297/impl.Form).disc -/
def impl_Form_disc {α : Type} (k : Nat) (x : Int) (x1 : Int) (x2 : Int) (r0 : Int → Option α) : Option α :=
  r0 (w64 ((w64 (x1 * x1)) - (w64 ((w64 (4 * x)) * x2))))

def impl_root_l2 {α : Type} : Nat → Int → Int → (Int → Int → Option α) → (Int → Option α) → Option α
  | 0, _, _, _, _ => none
  | k + 1, d1, w, b0, r0 =>
    bif decide ((w64 ((w64 (w + 1)) * (w64 (w + 1)))) ≤ d1) then
      impl_root_l2 k d1 (w64 (w + 1)) b0 r0
    else
      b0 d1 w

/-- loop.example/g01297/impl.root -/
def impl_root {α : Type} (k : Nat) (d : Int) (r0 : Int → Option α) : Option α :=
  impl_root_l2 k d 0
    (fun d2 w1 =>
      r0 w1)
    r0

/-- loop.example/g01297/impl.discOk -/
def impl_discOk {α : Type} (k : Nat) (d : Int) (r0 : Bool → Option α) : Option α :=
  impl_in k d 1 4000 fun v =>
  bif v then
    impl_root k d fun v1 =>
    impl_root k d fun v2 =>
    r0 (!decide ((w64 (v1 * v2)) = d))
  else
    r0 false

/-- loop.example/g01297/impl.IsForm -/
def impl_IsForm {α : Type} (k : Nat) (x : Int) (x1 : Int) (x2 : Int) (r0 : Bool → Option α) : Option α :=
  impl_isCoord k x fun v =>
  bif v then
    impl_isCoord k x1 fun v1 =>
    bif v1 then
      impl_isCoord k x2 fun v2 =>
      bif v2 then
        impl_Form_disc k x x1 x2 fun v3 =>
        impl_discOk k v3 fun v4 =>
        r0 v4
      else
        r0 false
    else
      r0 false
  else
    r0 false

/-- loop.example/g01297/laws.FnExactIsForm -/
def laws_FnExactIsForm {α : Type} (k : Nat) (aX : Int) (aX1 : Int) (aX2 : Int) (r0 : Bool → Option α) : Option α :=
  laws_toForm k aX aX1 aX2 fun v v1 v2 =>
  spec_IsForm k v v1 v2 fun v3 =>
  laws_toForm k aX aX1 aX2 fun v4 v5 v6 =>
  impl_IsForm k v4 v5 v6 fun v7 =>
  bif (!(v7 == v3)) then
    r0 false
  else
    r0 true

/-- loop.example/g01297/spec.CompareRatios -/
def spec_CompareRatios {α : Type} (k : Nat) (p_ : Int) (q_ : Int) (r_ : Int) (s : Int) (r0 : Int → Int → Option α) : Option α :=
  spec_l10Ratio k p_ q_ 1 fun v =>
  bif (!v) then
    r0 0 2
  else
    spec_l10Ratio k r_ s 1 fun v1 =>
    bif (!v1) then
      r0 0 2
    else
    bif decide ((w64 (p_ * s)) < (w64 (r_ * q_))) then
      r0 (-1) 0
    else
    bif decide ((w64 (r_ * q_)) < (w64 (p_ * s))) then
      r0 1 0
    else
      r0 0 0

/-- cmp.isNaN[int64] -/
def cmp_isNaN_int64 {α : Type} (k : Nat) (x : Int) (r0 : Bool → Option α) : Option α :=
  r0 (!decide (x = x))

/-- cmp.Compare[int64] -/
def cmp_Compare_int64 {α : Type} (k : Nat) (x : Int) (y : Int) (r0 : Int → Option α) : Option α :=
  cmp_isNaN_int64 k x fun v =>
  cmp_isNaN_int64 k y fun v1 =>
  bif v then
    bif v1 then
      r0 0
    else
      r0 (-1)
  else
  bif v1 then
    r0 1
  else
  bif decide (x < y) then
    r0 (-1)
  else
  bif decide (y < x) then
    r0 1
  else
    r0 0

/-- loop.example/g01297/impl.CompareRatios -/
def impl_CompareRatios {α : Type} (k : Nat) (p_ : Int) (q_ : Int) (r_ : Int) (s : Int) (r0 : Int → Int → Option α) : Option α :=
  impl_ratioOk k p_ q_ fun v =>
  bif (!v) then
    r0 0 2
  else
    impl_ratioOk k r_ s fun v1 =>
    bif (!v1) then
      r0 0 2
    else
      cmp_Compare_int64 k (w64 (p_ * s)) (w64 (r_ * q_)) fun v2 =>
      r0 v2 0

/-- loop.example/g01297/laws.FnExactCompareRatios -/
def laws_FnExactCompareRatios {α : Type} (k : Nat) (aP : Int) (aQ : Int) (aR : Int) (aS : Int) (r0 : Bool → Option α) : Option α :=
  spec_CompareRatios k aP aQ aR aS fun v v1 =>
  impl_CompareRatios k aP aQ aR aS fun v2 v3 =>
  bif (!decide (v2 = v)) then
    r0 false
  else
  bif (!decide (v3 = v1)) then
    r0 false
  else
    r0 true

/-- loop.example/g01297/spec.DiscriminantOf -/
def spec_DiscriminantOf {α : Type} (k : Nat) (x : Int) (x1 : Int) (x2 : Int) (r0 : Int → Int → Option α) : Option α :=
  spec_l06Is k x x1 x2 fun v =>
  bif (!v) then
    r0 0 1
  else
    spec_l06Disc k x x1 x2 fun v1 =>
    r0 v1 0

/-- loop.example/g01297/impl.DiscriminantOf -/
def impl_DiscriminantOf {α : Type} (k : Nat) (x : Int) (x1 : Int) (x2 : Int) (r0 : Int → Int → Option α) : Option α :=
  impl_IsForm k x x1 x2 fun v =>
  bif (!v) then
    r0 0 1
  else
    impl_Form_disc k x x1 x2 fun v1 =>
    r0 v1 0

/-- loop.example/g01297/laws.FnExactDiscriminantOf -/
def laws_FnExactDiscriminantOf {α : Type} (k : Nat) (aX : Int) (aX1 : Int) (aX2 : Int) (r0 : Bool → Option α) : Option α :=
  laws_toForm k aX aX1 aX2 fun v v1 v2 =>
  spec_DiscriminantOf k v v1 v2 fun v3 v4 =>
  laws_toForm k aX aX1 aX2 fun v5 v6 v7 =>
  impl_DiscriminantOf k v5 v6 v7 fun v8 v9 =>
  bif (!decide (v8 = v3)) then
    r0 false
  else
  bif (!decide (v9 = v4)) then
    r0 false
  else
    r0 true

/-- loop.example/g01297/spec.l11New -/
def spec_l11New {α : Type} (k : Nat)  (r0 : Int → Int → Int → Int → Int → Int → Int → Int → Int → Int → Int → Option α) : Option α :=
  r0 1 0 2 5 2 1 1 1 1 1 (-1)

/-- loop.example/g01297/spec.NewDesk -/
def spec_NewDesk {α : Type} (k : Nat)  (r0 : Int → Int → Int → Int → Int → Int → Int → Int → Int → Int → Int → Option α) : Option α :=
  spec_l11New k fun v v1 v2 v3 v4 v5 v6 v7 v8 v9 v10 =>
  r0 v v1 v2 v3 v4 v5 v6 v7 v8 v9 v10

/-- loop.example/g01297/impl.NewDesk -/
def impl_NewDesk {α : Type} (k : Nat)  (r0 : Int → Int → Int → Int → Int → Int → Int → Int → Int → Int → Int → Option α) : Option α :=
  r0 1 0 2 5 2 1 1 1 1 1 (-1)

/-- loop.example/g01297/laws.eqPoint -/
def laws_eqPoint {α : Type} (k : Nat) (a : Int) (a1 : Int) (b_ : Int) (b_1 : Int) (r0 : Bool → Option α) : Option α :=
  bif (!decide (a = b_)) then
    r0 false
  else
  bif (!decide (a1 = b_1)) then
    r0 false
  else
    r0 true

/-- loop.example/g01297/laws.eqInt64A2 -/
def laws_eqInt64A2 {α : Type} (k : Nat) (a : Int) (a1 : Int) (b_ : Int) (b_1 : Int) (r0 : Bool → Option α) : Option α :=
  bif (!decide (a = b_)) then
    r0 false
  else
  bif (!decide (a1 = b_1)) then
    r0 false
  else
    r0 true

/-- loop.example/g01297/laws.eqMatrix -/
def laws_eqMatrix {α : Type} (k : Nat) (a : Int) (a1 : Int) (a2 : Int) (a3 : Int) (b_ : Int) (b_1 : Int) (b_2 : Int) (b_3 : Int) (r0 : Bool → Option α) : Option α :=
  laws_eqInt64A2 k a a1 b_ b_1 fun v =>
  bif (!v) then
    r0 false
  else
    laws_eqInt64A2 k a2 a3 b_2 b_3 fun v1 =>
    bif (!v1) then
      r0 false
    else
      r0 true

/-- loop.example/g01297/laws.eqForm -/
def laws_eqForm {α : Type} (k : Nat) (a : Int) (a1 : Int) (a2 : Int) (b_ : Int) (b_1 : Int) (b_2 : Int) (r0 : Bool → Option α) : Option α :=
  bif (!decide (a = b_)) then
    r0 false
  else
  bif (!decide (a1 = b_1)) then
    r0 false
  else
  bif (!decide (a2 = b_2)) then
    r0 false
  else
    r0 true

/-- loop.example/g01297/laws.eqDesk -/
def laws_eqDesk {α : Type} (k : Nat) (a : Int) (a1 : Int) (a2 : Int) (a3 : Int) (a4 : Int) (a5 : Int) (a6 : Int) (a7 : Int) (a8 : Int) (a9 : Int) (a10 : Int) (b_ : Int) (b_1 : Int) (b_2 : Int) (b_3 : Int) (b_4 : Int) (b_5 : Int) (b_6 : Int) (b_7 : Int) (b_8 : Int) (b_9 : Int) (b_10 : Int) (r0 : Bool → Option α) : Option α :=
  laws_eqPoint k a a1 b_ b_1 fun v =>
  bif (!v) then
    r0 false
  else
    laws_eqPoint k a2 a3 b_2 b_3 fun v1 =>
    bif (!v1) then
      r0 false
    else
      laws_eqMatrix k a4 a5 a6 a7 b_4 b_5 b_6 b_7 fun v2 =>
      bif (!v2) then
        r0 false
      else
        laws_eqForm k a8 a9 a10 b_8 b_9 b_10 fun v3 =>
        bif (!v3) then
          r0 false
        else
          r0 true

/-- loop.example/g01297/laws.FnExactNewDesk -/
def laws_FnExactNewDesk {α : Type} (k : Nat)  (r0 : Bool → Option α) : Option α :=
  spec_NewDesk k fun v v1 v2 v3 v4 v5 v6 v7 v8 v9 v10 =>
  impl_NewDesk k fun v11 v12 v13 v14 v15 v16 v17 v18 v19 v20 v21 =>
  laws_eqDesk k v11 v12 v13 v14 v15 v16 v17 v18 v19 v20 v21 v v1 v2 v3 v4 v5 v6 v7 v8 v9 v10 fun v22 =>
  bif (!v22) then
    r0 false
  else
    r0 true

end Go.Sh
