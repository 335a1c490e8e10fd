/- The program's functions, read without memory: printed by a program of ours. -/
import Derived.Test.YtnfpidnnmgedfaaMaB
namespace Go.Sh
open Go Go.Ev

/-- loop.example/g01297/laws.toPoint -/
def laws_toPoint {α : Type} (k : Nat) (a : Int) (a1 : Int) (r0 : Int → Int → Option α) : Option α :=
  r0 a a1

/-- loop.example/g01297/spec.l01In -/
def spec_l01In {α : Type} (k : Nat) (n_ : Int) (low : Int) (high : Int) (r0 : Bool → Option α) : Option α :=
  bif decide (low ≤ n_) then
    r0 (decide (n_ ≤ high))
  else
    r0 false

/-- loop.example/g01297/spec.l01Fits -/
def spec_l01Fits {α : Type} (k : Nat) (x : Int) (r0 : Bool → Option α) : Option α :=
  spec_l01In k x (-1000000) 1000000 fun v =>
  r0 v

/-- loop.example/g01297/spec.l01Is -/
def spec_l01Is {α : Type} (k : Nat) (a : Int) (a1 : Int) (r0 : Bool → Option α) : Option α :=
  spec_l01Fits k a fun v =>
  bif v then
    spec_l01Fits k a1 fun v1 =>
    r0 v1
  else
    r0 false

/-- loop.example/g01297/spec.l01Det -/
def spec_l01Det {α : Type} (k : Nat) (a : Int) (a1 : Int) (b_ : Int) (b_1 : Int) (r0 : Int → Option α) : Option α :=
  r0 (w64 ((w64 (a * b_1)) - (w64 (a1 * b_))))

/-- loop.example/g01297/spec.l10Pair -/
def spec_l10Pair {α : Type} (k : Nat) (a : Int) (a1 : Int) (b_ : Int) (b_1 : Int) (r0 : Int → Option α) : Option α :=
  spec_l01Is k a a1 fun v =>
  bif (!v) then
    r0 1
  else
    spec_l01Is k b_ b_1 fun v1 =>
    bif (!v1) then
      r0 1
    else
      spec_l01Det k a a1 b_ b_1 fun v2 =>
      bif decide (v2 = 0) then
        r0 5
      else
        r0 0

/-- loop.example/g01297/spec.l10Dot -/
def spec_l10Dot {α : Type} (k : Nat) (a : Int) (a1 : Int) (b_ : Int) (b_1 : Int) (r0 : Int → Option α) : Option α :=
  r0 (w64 ((w64 (a * b_)) + (w64 (a1 * b_1))))

/-- loop.example/g01297/spec.l10Reduced -/
def spec_l10Reduced {α : Type} (k : Nat) (a : Int) (a1 : Int) (b_ : Int) (b_1 : Int) (r0 : Bool → Option α) : Option α :=
  spec_l10Dot k a a1 b_ b_1 fun v =>
  spec_l10Dot k a a1 a a1 fun v1 =>
  spec_l10Dot k b_ b_1 b_ b_1 fun v2 =>
  bif decide (v1 ≤ v2) then
    spec_l10Dot k a a1 a a1 fun v3 =>
    r0 (decide ((max (w64 (2 * v)) (w64 (0 - (w64 (2 * v))))) ≤ v3))
  else
    r0 false

/-- loop.example/g01297/spec.l01Floor -/
def spec_l01Floor {α : Type} (k : Nat) (p_ : Int) (q_ : Int) (r0 : Int → Option α) : Option α :=
  bif decide (q_ = 0) then
    none
  else
  bif decide (q_ = 0) then
    none
  else
  bif (!decide ((Int.tmod p_ q_) = 0)) then
    bif (!(decide (p_ < 0) == decide (q_ < 0))) then
      r0 (w64 ((w64 (Int.tdiv p_ q_)) - 1))
    else
      r0 (w64 (Int.tdiv p_ q_))
  else
    r0 (w64 (Int.tdiv p_ q_))

/-- loop.example/g01297/spec.l01Plus -/
def spec_l01Plus {α : Type} (k : Nat) (a : Int) (a1 : Int) (b_ : Int) (b_1 : Int) (k_ : Int) (r0 : Int → Int → Option α) : Option α :=
  r0 (w64 (a + (w64 (k_ * b_)))) (w64 (a1 + (w64 (k_ * b_1))))

def spec_l10Reduce_l1 {α : Type} : Nat → Int → Int → Int → Int → Int → Int → Int → Int → (Int → Int → Int → Int → Int → Int → Int → Int → Option α) → (Int → Int → Int → Int → Option α) → Option α
  | 0, _, _, _, _, _, _, _, _, _, _ => none
  | k + 1, a2, a3, b_2, b_3, x, x1, x2, x3, b0, r0 =>
    spec_l10Reduced k a2 a3 b_2 b_3 fun v =>
    bif (!v) then
      spec_l10Dot k a2 a3 a2 a3 fun v1 =>
      spec_l10Dot k b_2 b_3 b_2 b_3 fun v2 =>
      bif decide (v2 < v1) then
        spec_l10Reduce_l1 k b_2 b_3 a2 a3 x x1 x2 x3 b0 r0
      else
        spec_l10Dot k a2 a3 a2 a3 fun v3 =>
        spec_l10Dot k a2 a3 b_2 b_3 fun v4 =>
        spec_l01Floor k (w64 ((w64 (2 * v4)) + v3)) (w64 (2 * v3)) fun v5 =>
        spec_l01Plus k b_2 b_3 a2 a3 (w64 (0 - v5)) fun v6 v7 =>
        spec_l10Reduce_l1 k a2 a3 v6 v7 x x1 x2 x3 b0 r0
    else
      b0 a2 a3 b_2 b_3 x x1 x2 x3

/-- loop.example/g01297/spec.l10Reduce -/
def spec_l10Reduce {α : Type} (k : Nat) (a : Int) (a1 : Int) (b_ : Int) (b_1 : Int) (r0 : Int → Int → Int → Int → Option α) : Option α :=
  spec_l10Reduce_l1 k a a1 b_ b_1 0 0 0 0
    (fun a4 a5 b_4 b_5 x4 x5 x6 x7 =>
      r0 a4 a5 b_4 b_5)
    r0

/-- loop.example/g01297/spec.ReducePair -/
def spec_ReducePair {α : Type} (k : Nat) (a : Int) (a1 : Int) (b_ : Int) (b_1 : Int) (r0 : Int → Option α) (r1 : (List (Int × Int)) → Int → Option α) : Option α :=
  spec_l10Pair k a a1 b_ b_1 fun v =>
  bif (!decide (v = 0)) then
    r0 v
  else
    spec_l10Reduce k a a1 b_ b_1 fun v1 v2 v3 v4 =>
    r1 [(v1, v2), (v3, v4)] 0

/-- loop.example/g01297/impl.in -/
def impl_in {α : Type} (k : Nat) (n_ : Int) (low : Int) (high : Int) (r0 : Bool → Option α) : Option α :=
  bif decide (low ≤ n_) then
    r0 (decide (n_ ≤ high))
  else
    r0 false

/-- loop.example/g01297/impl.isCoord -/
def impl_isCoord {α : Type} (k : Nat) (n_ : Int) (r0 : Bool → Option α) : Option α :=
  impl_in k n_ (-1000000) 1000000 fun v =>
  r0 v

/-- loop.example/g01297/impl.IsPoint -/
def impl_IsPoint {α : Type} (k : Nat) (a : Int) (a1 : Int) (r0 : Bool → Option α) : Option α :=
  impl_isCoord k a fun v =>
  bif v then
    impl_isCoord k a1 fun v1 =>
    r0 v1
  else
    r0 false

/-- loop.example/g01297/impl.points$1 -/
def impl_points_1 {α : Type} (k : Nat) (a : Int) (a1 : Int) (r0 : Bool → Option α) : Option α :=
  impl_IsPoint k a a1 fun v =>
  r0 (!v)

def slices_IndexFunc_impl_Point_impl_Point_1F_impl_points_1_l2 {α : Type} : Nat → Int → Int → (List (Int × Int)) → (Int → Int → (List (Int × Int)) → Option α) → (Int → Option α) → Option α
  | 0, _, _, _, _, _ => none
  | k + 1, x, x1, s1, b0, r0 =>
    bif decide (x1 < x) then
      bif (decide (0 ≤ x1) && decide (x1 < (((List.length s1) : Nat) : Int))) then
        (s1[x1.toNat]?).bind fun e_ =>
        impl_points_1 k e_.1 e_.2 fun v =>
        bif v then
          r0 x1
        else
          slices_IndexFunc_impl_Point_impl_Point_1F_impl_points_1_l2 k x (w64 (x1 + 1)) s1 b0 r0
      else
        none
    else
      b0 x x1 s1

/-- slices.IndexFunc[[]loop.example/g01297/impl.Point,loop.example/g01297/impl.Point] -/
def slices_IndexFunc_impl_Point_impl_Point_1F_impl_points_1 {α : Type} (k : Nat) (s : List (Int × Int)) (r0 : Int → Option α) : Option α :=
  slices_IndexFunc_impl_Point_impl_Point_1F_impl_points_1_l2 k (((List.length s) : Nat) : Int) 0 s
    (fun x2 x3 s2 =>
      r0 (-1))
    r0

/-- slices.ContainsFunc[[]loop.example/g01297/impl.Point,loop.example/g01297/impl.Point] -/
def slices_ContainsFunc_impl_Point_impl_Point_1F_impl_points_1 {α : Type} (k : Nat) (s : List (Int × Int)) (r0 : Bool → Option α) : Option α :=
  slices_IndexFunc_impl_Point_impl_Point_1F_impl_points_1 k s fun v =>
  r0 (decide (0 ≤ v))

/-- loop.example/g01297/impl.points -/
def impl_points {α : Type} (k : Nat) (list : List (Int × Int)) (r0 : Bool → Option α) : Option α :=
  slices_ContainsFunc_impl_Point_impl_Point_1F_impl_points_1 k list fun v =>
  r0 (!v)

/-- loop.example/g01297/impl.det -/
def impl_det {α : Type} (k : Nat) (a : Int) (a1 : Int) (b_ : Int) (b_1 : Int) (r0 : Int → Option α) : Option α :=
  r0 (w64 ((w64 (a * b_1)) - (w64 (a1 * b_))))

/-- loop.example/g01297/impl.pairFault -/
def impl_pairFault {α : Type} (k : Nat) (a : Int) (a1 : Int) (b_ : Int) (b_1 : Int) (r0 : Int → Option α) : Option α :=
  impl_points k [(a, a1), (b_, b_1)] fun v =>
  bif (!v) then
    r0 1
  else
    impl_det k a a1 b_ b_1 fun v1 =>
    bif decide (v1 = 0) then
      r0 5
    else
      r0 0

/-- loop.example/g01297/impl.dot -/
def impl_dot {α : Type} (k : Nat) (a : Int) (a1 : Int) (b_ : Int) (b_1 : Int) (r0 : Int → Option α) : Option α :=
  r0 (w64 ((w64 (a * b_)) + (w64 (a1 * b_1))))

/-- (loop.example/g01297/impl.Point).norm -/
def impl_Point_norm {α : Type} (k : Nat) (a : Int) (a1 : Int) (r0 : Int → Option α) : Option α :=
  impl_dot k a a1 a a1 fun v =>
  r0 v

/-- loop.example/g01297/impl.size -/
def impl_size {α : Type} (k : Nat) (n_ : Int) (r0 : Int → Option α) : Option α :=
  r0 (max n_ (w64 (0 - n_)))

/-- loop.example/g01297/impl.isReduced -/
def impl_isReduced {α : Type} (k : Nat) (a : Int) (a1 : Int) (b_ : Int) (b_1 : Int) (r0 : Bool → Option α) : Option α :=
  impl_Point_norm k a a1 fun v =>
  impl_Point_norm k b_ b_1 fun v1 =>
  bif decide (v ≤ v1) then
    impl_dot k a a1 b_ b_1 fun v2 =>
    impl_size k v2 fun v3 =>
    impl_Point_norm k a a1 fun v4 =>
    r0 (decide ((w64 (2 * v3)) ≤ v4))
  else
    r0 false

/-- loop.example/g01297/impl.floor -/
def impl_floor {α : Type} (k : Nat) (a : Int) (b_ : Int) (r0 : Int → Option α) : Option α :=
  bif decide (b_ = 0) then
    none
  else
  bif decide (b_ = 0) then
    none
  else
  bif (!decide ((Int.tmod a b_) = 0)) then
    bif (!(decide (a < 0) == decide (b_ < 0))) then
      r0 (w64 ((w64 (Int.tdiv a b_)) - 1))
    else
      r0 (w64 (Int.tdiv a b_))
  else
    r0 (w64 (Int.tdiv a b_))

/-- (loop.example/g01297/impl.Point).plus -/
def impl_Point_plus {α : Type} (k : Nat) (a : Int) (a1 : Int) (b_ : Int) (b_1 : Int) (k_ : Int) (r0 : Int → Int → Option α) : Option α :=
  r0 (w64 (a + (w64 (k_ * b_)))) (w64 (a1 + (w64 (k_ * b_1))))

def impl_ReducePair_l4 {α : Type} : Nat → Int → Int → Int → Int → (Int → Int → Int → Int → Option α) → (Int → Option α) → ((List (Int × Int)) → Int → Option α) → Option α
  | 0, _, _, _, _, _, _, _ => none
  | k + 1, a2, a3, b_2, b_3, b0, r0, r1 =>
    impl_isReduced k a2 a3 b_2 b_3 fun v1 =>
    bif (!v1) then
      impl_Point_norm k a2 a3 fun v2 =>
      impl_Point_norm k b_2 b_3 fun v3 =>
      bif decide (v3 < v2) then
        impl_ReducePair_l4 k b_2 b_3 a2 a3 b0 r0 r1
      else
        impl_dot k a2 a3 b_2 b_3 fun v4 =>
        impl_Point_norm k a2 a3 fun v5 =>
        impl_Point_norm k a2 a3 fun v6 =>
        impl_floor k (w64 ((w64 (2 * v4)) + v5)) (w64 (2 * v6)) fun v7 =>
        impl_Point_plus k b_2 b_3 a2 a3 (w64 (0 - v7)) fun v8 v9 =>
        impl_ReducePair_l4 k a2 a3 v8 v9 b0 r0 r1
    else
      b0 a2 a3 b_2 b_3

/-- loop.example/g01297/impl.ReducePair -/
def impl_ReducePair {α : Type} (k : Nat) (a : Int) (a1 : Int) (b_ : Int) (b_1 : Int) (r0 : Int → Option α) (r1 : (List (Int × Int)) → Int → Option α) : Option α :=
  impl_pairFault k a a1 b_ b_1 fun v =>
  bif (!decide (v = 0)) then
    r0 v
  else
    impl_ReducePair_l4 k a a1 b_ b_1
      (fun a4 a5 b_4 b_5 =>
        r1 [(a4, a5), (b_4, b_5)] 0)
      r0 r1

/-- loop.example/g01297/laws.eqPointS -/
def laws_eqPointS_0N_1N {α : Type} (k : Nat)  (r0 : Bool → Option α) : Option α :=
  r0 true

/-- loop.example/g01297/laws.markPointS -/
def laws_markPointS_0N {α : Type} (k : Nat) (k_ : Int) (r0 : Int → Option α) : Option α :=
  r0 k_

/-- loop.example/g01297/laws.heldPointS -/
def laws_heldPointS_0N {α : Type} (k : Nat) (k_ : Int) (r0 : Int → Option α) : Option α :=
  r0 k_

def laws_eqPointS_1N_l4 {α : Type} : Nat → Int → (List (Int × Int)) → (Int → (List (Int × Int)) → Option α) → (Bool → Option α) → Option α
  | 0, _, _, _, _ => none
  | k + 1, i, a1, b0, r0 =>
    bif decide (i < (((List.length a1) : Nat) : Int)) then
      bif (decide (0 ≤ i) && decide (i < (((List.length a1) : Nat) : Int))) then
        (a1[i.toNat]?).bind fun e_ =>
        none
      else
        none
    else
      b0 i a1

/-- loop.example/g01297/laws.eqPointS -/
def laws_eqPointS_1N {α : Type} (k : Nat) (a : List (Int × Int)) (r0 : Bool → Option α) : Option α :=
  bif (!decide ((((List.length a) : Nat) : Int) = 0)) then
    r0 false
  else
    laws_eqPointS_1N_l4 k 0 a
      (fun i1 a2 =>
        r0 true)
      r0

def laws_markPointS_l2 {α : Type} : Nat → Int → Int → (List (Int × Int)) → (Int → Int → (List (Int × Int)) → Option α) → (Int → (List (Int × Int)) → Option α) → Option α
  | 0, _, _, _, _, _ => none
  | k + 1, k_1, i, a1, b0, r0 =>
    bif decide (i < (((List.length a1) : Nat) : Int)) then
      bif (decide (0 ≤ i) && decide (i < (((List.length a1) : Nat) : Int))) then
        (a1[i.toNat]?).bind fun e_ =>
        bif (decide (0 ≤ i) && decide (i < (((List.length (List.set a1 i.toNat (k_1, e_.2))) : Nat) : Int))) then
          ((List.set a1 i.toNat (k_1, e_.2))[i.toNat]?).bind fun e_1 =>
          laws_markPointS_l2 k (w64 ((w64 (k_1 + 1)) + 1)) (w64 (i + 1)) (List.set (List.set a1 i.toNat (k_1, e_.2)) i.toNat (e_1.1, (w64 (k_1 + 1)))) b0 r0
        else
          none
      else
        none
    else
      b0 k_1 i a1

/-- loop.example/g01297/laws.markPointS -/
def laws_markPointS {α : Type} (k : Nat) (a : List (Int × Int)) (k_ : Int) (r0 : Int → (List (Int × Int)) → Option α) : Option α :=
  laws_markPointS_l2 k k_ 0 a
    (fun k_2 i1 a2 =>
      r0 k_2 a2)
    r0

def laws_heldPointS_l2 {α : Type} : Nat → Int → Int → (List (Int × Int)) → (Int → Int → (List (Int × Int)) → Option α) → (Int → Option α) → Option α
  | 0, _, _, _, _, _ => none
  | k + 1, k_1, i, a1, b0, r0 =>
    bif decide (i < (((List.length a1) : Nat) : Int)) then
      bif (decide (0 ≤ i) && decide (i < (((List.length a1) : Nat) : Int))) then
        (a1[i.toNat]?).bind fun e_ =>
        bif (!decide (e_.1 = k_1)) then
          r0 (-1)
        else
        bif (decide (0 ≤ i) && decide (i < (((List.length a1) : Nat) : Int))) then
          (a1[i.toNat]?).bind fun e_1 =>
          bif (!decide (e_1.2 = (w64 (k_1 + 1)))) then
            r0 (-1)
          else
            laws_heldPointS_l2 k (w64 ((w64 (k_1 + 1)) + 1)) (w64 (i + 1)) a1 b0 r0
        else
          none
      else
        none
    else
      b0 k_1 i a1

/-- loop.example/g01297/laws.heldPointS -/
def laws_heldPointS {α : Type} (k : Nat) (a : List (Int × Int)) (k_ : Int) (r0 : Int → Option α) : Option α :=
  laws_heldPointS_l2 k k_ 0 a
    (fun k_2 i1 a2 =>
      r0 k_2)
    r0

/-- loop.example/g01297/laws.eqPointS -/
def laws_eqPointS_0N {α : Type} (k : Nat) (b_ : List (Int × Int)) (r0 : Bool → Option α) : Option α :=
  bif (!decide (0 = (((List.length b_) : Nat) : Int))) then
    r0 false
  else
    r0 true

/-- loop.example/g01297/laws.eqPoint -/
def laws_eqPoint {α : Type} (k : Nat) (a : Int) (a1 : Int) (b_ : Int) (b_1 : Int) (r0 : Bool → Option α) : Option α :=
  bif (!decide (a = b_)) then
    r0 false
  else
  bif (!decide (a1 = b_1)) then
    r0 false
  else
    r0 true

def laws_eqPointS_l4 {α : Type} : Nat → Int → (List (Int × Int)) → (List (Int × Int)) → (Int → (List (Int × Int)) → (List (Int × Int)) → Option α) → (Bool → Option α) → Option α
  | 0, _, _, _, _, _ => none
  | k + 1, i, a1, b_1, b0, r0 =>
    bif decide (i < (((List.length a1) : Nat) : Int)) then
      bif (decide (0 ≤ i) && decide (i < (((List.length a1) : Nat) : Int))) then
        (a1[i.toNat]?).bind fun e_ =>
        bif (decide (0 ≤ i) && decide (i < (((List.length b_1) : Nat) : Int))) then
          (b_1[i.toNat]?).bind fun e_1 =>
          laws_eqPoint k e_.1 e_.2 e_1.1 e_1.2 fun v =>
          bif (!v) then
            r0 false
          else
            laws_eqPointS_l4 k (w64 (i + 1)) a1 b_1 b0 r0
        else
          none
      else
        none
    else
      b0 i a1 b_1

/-- loop.example/g01297/laws.eqPointS -/
def laws_eqPointS {α : Type} (k : Nat) (a : List (Int × Int)) (b_ : List (Int × Int)) (r0 : Bool → Option α) : Option α :=
  bif (!decide ((((List.length a) : Nat) : Int) = (((List.length b_) : Nat) : Int))) then
    r0 false
  else
    laws_eqPointS_l4 k 0 a b_
      (fun i1 a2 b_2 =>
        r0 true)
      r0

/-- loop.example/g01297/laws.FnExactReducePair -/
def laws_FnExactReducePair {α : Type} (k : Nat) (aA : Int) (aA1 : Int) (aB : Int) (aB1 : Int) (r0 : Bool → Option α) : Option α :=
  laws_toPoint k aA aA1 fun v v1 =>
  laws_toPoint k aB aB1 fun v2 v3 =>
  spec_ReducePair k v v1 v2 v3
    (fun v4 =>
      laws_toPoint k aA aA1 fun v5 v6 =>
      laws_toPoint k aB aB1 fun v7 v8 =>
      impl_ReducePair k v5 v6 v7 v8
        (fun v9 =>
          laws_eqPointS_0N_1N k fun v10 =>
          bif (!v10) then
            r0 false
          else
          bif (!decide (v9 = v4)) then
            r0 false
          else
            laws_markPointS_0N k 1 fun v11 =>
            laws_heldPointS_0N k 1 fun v12 =>
            bif decide (v12 < 0) then
              r0 false
            else
            bif (!decide (v12 = v11)) then
              r0 false
            else
              laws_toPoint k aA aA1 fun v13 v14 =>
              laws_toPoint k aB aB1 fun v15 v16 =>
              impl_ReducePair k v13 v14 v15 v16
                (fun v17 =>
                  laws_eqPointS_0N_1N k fun v18 =>
                  bif (!v18) then
                    r0 false
                  else
                  bif (!decide (v17 = v4)) then
                    r0 false
                  else
                    laws_heldPointS_0N k 1 fun v19 =>
                    bif decide (v19 < 0) then
                      r0 false
                    else
                    bif (!decide (v19 = v11)) then
                      r0 false
                    else
                      r0 true)
                (fun v20 v21 =>
                  laws_eqPointS_1N k v20 fun v22 =>
                  bif (!v22) then
                    r0 false
                  else
                  bif (!decide (v21 = v4)) then
                    r0 false
                  else
                    laws_heldPointS_0N k 1 fun v23 =>
                    bif decide (v23 < 0) then
                      r0 false
                    else
                    bif (!decide (v23 = v11)) then
                      r0 false
                    else
                      r0 true))
        (fun v24 v25 =>
          laws_eqPointS_1N k v24 fun v26 =>
          bif (!v26) then
            r0 false
          else
          bif (!decide (v25 = v4)) then
            r0 false
          else
            laws_markPointS k v24 1 fun v27 v28 =>
            laws_heldPointS k v28 1 fun v29 =>
            bif decide (v29 < 0) then
              r0 false
            else
            bif (!decide (v29 = v27)) then
              r0 false
            else
              laws_toPoint k aA aA1 fun v30 v31 =>
              laws_toPoint k aB aB1 fun v32 v33 =>
              impl_ReducePair k v30 v31 v32 v33
                (fun v34 =>
                  laws_eqPointS_0N_1N k fun v35 =>
                  bif (!v35) then
                    r0 false
                  else
                  bif (!decide (v34 = v4)) then
                    r0 false
                  else
                    laws_heldPointS k v28 1 fun v36 =>
                    bif decide (v36 < 0) then
                      r0 false
                    else
                    bif (!decide (v36 = v27)) then
                      r0 false
                    else
                      r0 true)
                (fun v37 v38 =>
                  laws_eqPointS_1N k v37 fun v39 =>
                  bif (!v39) then
                    r0 false
                  else
                  bif (!decide (v38 = v4)) then
                    r0 false
                  else
                    laws_heldPointS k v28 1 fun v40 =>
                    bif decide (v40 < 0) then
                      r0 false
                    else
                    bif (!decide (v40 = v27)) then
                      r0 false
                    else
                      r0 true)))
    (fun v41 v42 =>
      laws_toPoint k aA aA1 fun v43 v44 =>
      laws_toPoint k aB aB1 fun v45 v46 =>
      impl_ReducePair k v43 v44 v45 v46
        (fun v47 =>
          laws_eqPointS_0N k v41 fun v48 =>
          bif (!v48) then
            r0 false
          else
          bif (!decide (v47 = v42)) then
            r0 false
          else
            laws_markPointS_0N k 1 fun v49 =>
            laws_heldPointS_0N k 1 fun v50 =>
            bif decide (v50 < 0) then
              r0 false
            else
            bif (!decide (v50 = v49)) then
              r0 false
            else
              laws_toPoint k aA aA1 fun v51 v52 =>
              laws_toPoint k aB aB1 fun v53 v54 =>
              impl_ReducePair k v51 v52 v53 v54
                (fun v55 =>
                  laws_eqPointS_0N k v41 fun v56 =>
                  bif (!v56) then
                    r0 false
                  else
                  bif (!decide (v55 = v42)) then
                    r0 false
                  else
                    laws_heldPointS_0N k 1 fun v57 =>
                    bif decide (v57 < 0) then
                      r0 false
                    else
                    bif (!decide (v57 = v49)) then
                      r0 false
                    else
                      r0 true)
                (fun v58 v59 =>
                  laws_eqPointS k v58 v41 fun v60 =>
                  bif (!v60) then
                    r0 false
                  else
                  bif (!decide (v59 = v42)) then
                    r0 false
                  else
                    laws_heldPointS_0N k 1 fun v61 =>
                    bif decide (v61 < 0) then
                      r0 false
                    else
                    bif (!decide (v61 = v49)) then
                      r0 false
                    else
                      r0 true))
        (fun v62 v63 =>
          laws_eqPointS k v62 v41 fun v64 =>
          bif (!v64) then
            r0 false
          else
          bif (!decide (v63 = v42)) then
            r0 false
          else
            laws_markPointS k v62 1 fun v65 v66 =>
            laws_heldPointS k v66 1 fun v67 =>
            bif decide (v67 < 0) then
              r0 false
            else
            bif (!decide (v67 = v65)) then
              r0 false
            else
              laws_toPoint k aA aA1 fun v68 v69 =>
              laws_toPoint k aB aB1 fun v70 v71 =>
              impl_ReducePair k v68 v69 v70 v71
                (fun v72 =>
                  laws_eqPointS_0N k v41 fun v73 =>
                  bif (!v73) then
                    r0 false
                  else
                  bif (!decide (v72 = v42)) then
                    r0 false
                  else
                    laws_heldPointS k v66 1 fun v74 =>
                    bif decide (v74 < 0) then
                      r0 false
                    else
                    bif (!decide (v74 = v65)) then
                      r0 false
                    else
                      r0 true)
                (fun v75 v76 =>
                  laws_eqPointS k v75 v41 fun v77 =>
                  bif (!v77) then
                    r0 false
                  else
                  bif (!decide (v76 = v42)) then
                    r0 false
                  else
                    laws_heldPointS k v66 1 fun v78 =>
                    bif decide (v78 < 0) then
                      r0 false
                    else
                    bif (!decide (v78 = v65)) then
                      r0 false
                    else
                      r0 true)))

end Go.Sh
