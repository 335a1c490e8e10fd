/- The program's functions, read without memory: printed by a program of ours. -/
import Derived.Test.YtamgbocajdfbhaaMaB
namespace Go.Sh
open Go Go.Ev

/-- loop.example/g01297/laws.szPointS -/
def laws_szPointS {α : Type} (k : Nat) (a : List (Int × Int)) (left : Int) (r0 : Int → Option α) : Option α :=
  bif decide ((w64 (left - (((List.length a) : Nat) : Int))) < 0) then
    r0 (-1)
  else
    r0 (w64 (left - (((List.length a) : Nat) : Int)))

/-- loop.example/g01297/laws.toPoint -/
def laws_toPoint {α : Type} (k : Nat) (a : Int) (a1 : Int) (r0 : Int → Int → Option α) : Option α :=
  r0 a a1

def laws_toPointS_l3 {α : Type} : Nat → Int → (List (Int × Int)) → (List (Int × Int)) → (Int → (List (Int × Int)) → (List (Int × Int)) → Option α) → ((List (Int × Int)) → Option α) → Option α
  | 0, _, _, _, _, _ => none
  | k + 1, i, a1, out, b0, r0 =>
    bif decide (i < (((List.length a1) : Nat) : Int)) then
      bif (decide (0 ≤ i) && decide (i < (((List.length a1) : Nat) : Int))) then
        (a1[i.toNat]?).bind fun e_ =>
        laws_toPoint k e_.1 e_.2 fun v v1 =>
        bif (decide (0 ≤ i) && decide (i < (((List.length out) : Nat) : Int))) then
          (out[i.toNat]?).bind fun _ =>
          laws_toPointS_l3 k (w64 (i + 1)) a1 (List.set out i.toNat (v, v1)) b0 r0
        else
          none
      else
        none
    else
      b0 i a1 out

/-- loop.example/g01297/laws.toPointS -/
def laws_toPointS {α : Type} (k : Nat) (a : List (Int × Int)) (r0 : (List (Int × Int)) → Option α) : Option α :=
  bif (decide (0 ≤ (((List.length a) : Nat) : Int)) && decide ((((List.length a) : Nat) : Int) ≤ (big : Int))) then
    laws_toPointS_l3 k 0 a (List.replicate (((List.length a) : Nat) : Int).toNat (0, 0))
      (fun _ _ out1 =>
        r0 out1)
      r0
  else
    none

/-- loop.example/g01297/spec.l01In -/
def spec_l01In {α : Type} (k : Nat) (n_ : Int) (low : Int) (high : Int) (r0 : Bool → Option α) : Option α :=
  bif decide (low ≤ n_) then
    r0 (decide (n_ ≤ high))
  else
    r0 false

/-- loop.example/g01297/spec.l01Fits -/
def spec_l01Fits {α : Type} (k : Nat) (x : Int) (r0 : Bool → Option α) : Option α :=
  spec_l01In k x (-1000000) 1000000 fun v =>
  r0 v

/-- loop.example/g01297/spec.l01Is -/
def spec_l01Is {α : Type} (k : Nat) (a : Int) (a1 : Int) (r0 : Bool → Option α) : Option α :=
  spec_l01Fits k a fun v =>
  bif v then
    spec_l01Fits k a1 fun v1 =>
    r0 v1
  else
    r0 false

/-- loop.example/g01297/spec.l01Plus -/
def spec_l01Plus {α : Type} (k : Nat) (a : Int) (a1 : Int) (b_ : Int) (b_1 : Int) (k_ : Int) (r0 : Int → Int → Option α) : Option α :=
  r0 (w64 (a + (w64 (k_ * b_)))) (w64 (a1 + (w64 (k_ * b_1))))

/-- loop.example/g01297/spec.l01Det -/
def spec_l01Det {α : Type} (k : Nat) (a : Int) (a1 : Int) (b_ : Int) (b_1 : Int) (r0 : Int → Option α) : Option α :=
  r0 (w64 ((w64 (a * b_1)) - (w64 (a1 * b_))))

/-- loop.example/g01297/spec.l09Side -/
def spec_l09Side {α : Type} (k : Nat) (a : Int) (a1 : Int) (b_ : Int) (b_1 : Int) (c : Int) (c1 : Int) (r0 : Int → Option α) : Option α :=
  spec_l01Plus k b_ b_1 a a1 (-1) fun v v1 =>
  spec_l01Plus k c c1 b_ b_1 (-1) fun v2 v3 =>
  spec_l01Det k v v1 v2 v3 fun v4 =>
  r0 v4

/-- loop.example/g01297/spec.l09Half -/
def spec_l09Half {α : Type} (k : Nat) (a : Int) (a1 : Int) (r0 : Int → Option α) : Option α :=
  bif decide (0 < a1) then
    r0 0
  else
  bif decide (a1 = 0) then
    bif decide (0 < a) then
      r0 0
    else
      r0 1
  else
    r0 1

def spec_l09Is_l6 {α : Type} : Nat → Int → Int → Int → (List (Int × Int)) → (Int → Int → Int → (List (Int × Int)) → Option α) → (Bool → Option α) → Option α
  | 0, _, _, _, _, _, _ => none
  | k + 1, n_, turns, i, list1, b0, r0 =>
    bif decide (i < n_) then
      bif (decide (0 ≤ i) && decide (i < (((List.length list1) : Nat) : Int))) then
        (list1[i.toNat]?).bind fun e_ =>
        bif decide (n_ = 0) then
          none
        else
        bif (decide (0 ≤ (Int.tmod (w64 (i + 1)) n_)) && decide ((Int.tmod (w64 (i + 1)) n_) < (((List.length list1) : Nat) : Int))) then
          (list1[(Int.tmod (w64 (i + 1)) n_).toNat]?).bind fun e_1 =>
          bif decide (n_ = 0) then
            none
          else
          bif (decide (0 ≤ (Int.tmod (w64 (i + 2)) n_)) && decide ((Int.tmod (w64 (i + 2)) n_) < (((List.length list1) : Nat) : Int))) then
            (list1[(Int.tmod (w64 (i + 2)) n_).toNat]?).bind fun e_2 =>
            spec_l01In k e_.1 (-1000) 1000 fun v =>
            bif (!v) then
              r0 false
            else
              spec_l01In k e_.2 (-1000) 1000 fun v1 =>
              bif (!v1) then
                r0 false
              else
                spec_l01Is k e_1.1 e_1.2 fun v2 =>
                bif (!v2) then
                  r0 false
                else
                  spec_l01Is k e_2.1 e_2.2 fun v3 =>
                  bif (!v3) then
                    r0 false
                  else
                    spec_l09Side k e_.1 e_.2 e_1.1 e_1.2 e_2.1 e_2.2 fun v4 =>
                    bif decide (v4 ≤ 0) then
                      r0 false
                    else
                      spec_l01Plus k e_1.1 e_1.2 e_.1 e_.2 (-1) fun v5 v6 =>
                      spec_l09Half k v5 v6 fun v7 =>
                      bif decide (v7 = 1) then
                        spec_l01Plus k e_2.1 e_2.2 e_1.1 e_1.2 (-1) fun v8 v9 =>
                        spec_l09Half k v8 v9 fun v10 =>
                        bif decide (v10 = 0) then
                          spec_l09Is_l6 k n_ (w64 (turns + 1)) (w64 (i + 1)) list1 b0 r0
                        else
                          spec_l09Is_l6 k n_ turns (w64 (i + 1)) list1 b0 r0
                      else
                        spec_l09Is_l6 k n_ turns (w64 (i + 1)) list1 b0 r0
          else
            none
        else
          none
      else
        none
    else
      b0 n_ turns i list1

/-- loop.example/g01297/spec.l09Is -/
def spec_l09Is {α : Type} (k : Nat) (list : List (Int × Int)) (r0 : Bool → Option α) : Option α :=
  bif decide ((((List.length list) : Nat) : Int) < 3) then
    r0 false
  else
  bif decide (12 < (((List.length list) : Nat) : Int)) then
    r0 false
  else
    spec_l09Is_l6 k (((List.length list) : Nat) : Int) 0 0 list
      (fun _ turns1 _ _ =>
        r0 (decide (turns1 = 1)))
      r0

/-- loop.example/g01297/spec.l09Code -/
def spec_l09Code_0M2 {α : Type} (k : Nat) (lists : List (Int × Int)) (lists1 : List (Int × Int)) (r0 : Int → Option α) : Option α :=
  spec_l09Is k lists fun v =>
  bif (!v) then
    r0 1
  else
    spec_l09Is k lists1 fun v1 =>
    bif (!v1) then
      r0 1
    else
      r0 0

def spec_l01Gcd_l1 {α : Type} : Nat → Int → Int → (Int → Int → Option α) → (Int → Option α) → Option α
  | 0, _, _, _, _ => none
  | k + 1, a1, b_1, b0, r0 =>
    bif (!decide (b_1 = 0)) then
      bif decide (b_1 = 0) then
        none
      else
        spec_l01Gcd_l1 k b_1 (Int.tmod a1 b_1) b0 r0
    else
      b0 a1 b_1

/-- loop.example/g01297/spec.l01Gcd -/
def spec_l01Gcd {α : Type} (k : Nat) (a : Int) (b_ : Int) (r0 : Int → Option α) : Option α :=
  spec_l01Gcd_l1 k a b_
    (fun a2 _ =>
      r0 (max a2 (w64 (0 - a2))))
    r0

/-- loop.example/g01297/spec.l01Part -/
def spec_l01Part {α : Type} (k : Nat) (a : Int) (a1 : Int) (r0 : Int → Int → Option α) : Option α :=
  spec_l01Gcd k a a1 fun v =>
  bif decide (v = 0) then
    none
  else
  bif decide (v = 0) then
    none
  else
    r0 (w64 (Int.tdiv a v)) (w64 (Int.tdiv a1 v))

/-- loop.example/g01297/spec.l01Rest -/
def spec_l01Rest {α : Type} (k : Nat) (n_ : Int) (x : Int) (r0 : Int → Option α) : Option α :=
  bif decide (n_ = 0) then
    none
  else
  bif decide (n_ = 0) then
    none
  else
    r0 (Int.tmod (w64 ((Int.tmod x n_) + n_)) n_)

def spec_l01Base_l5 {α : Type} : Nat → Int → Int → Int → Int → Int → Int → Int → Int → Int → (Int → Int → Int → Int → Int → Int → Int → Int → Int → Option α) → (Int → Int → Option α) → Option α
  | 0, _, _, _, _, _, _, _, _, _, _, _ => none
  | k + 1, n_, x, before, rest, next, a2, a3, x1, x2, b0, r0 =>
    bif (!decide (next = 0)) then
      bif decide (next = 0) then
        none
      else
        spec_l01Base_l5 k n_ before (w64 (x - (w64 ((w64 (Int.tdiv rest next)) * before)))) next (w64 (rest - (w64 ((w64 (Int.tdiv rest next)) * next)))) a2 a3 x1 x2 b0 r0
    else
      b0 n_ x before rest next a2 a3 x1 x2

/-- loop.example/g01297/spec.l01Base -/
def spec_l01Base {α : Type} (k : Nat) (a : Int) (a1 : Int) (r0 : Int → Int → Option α) : Option α :=
  bif decide (a = 0) then
    r0 (w64 (0 - a1)) 0
  else
    spec_l01Rest k (max a (w64 (0 - a))) a1 fun v =>
    spec_l01Base_l5 k (max a (w64 (0 - a))) 1 0 v (max a (w64 (0 - a))) a a1 0 0
      (fun n_1 x3 _ _ _ a4 a5 _ _ =>
        spec_l01Rest k n_1 (w64 (0 - x3)) fun v1 =>
        bif decide (a4 = 0) then
          none
        else
          r0 v1 (w64 (Int.tdiv (w64 (1 + (w64 (a5 * v1)))) a4)))
      r0

/-- loop.example/g01297/spec.l01Apply -/
def spec_l01Apply {α : Type} (k : Nat) (m : Int) (m1 : Int) (m2 : Int) (m3 : Int) (a : Int) (a1 : Int) (r0 : Int → Int → Option α) : Option α :=
  r0 (w64 ((w64 (m * a)) + (w64 (m1 * a1)))) (w64 ((w64 (m2 * a)) + (w64 (m3 * a1))))

/-- loop.example/g01297/spec.l01Floor -/
def spec_l01Floor {α : Type} (k : Nat) (p_ : Int) (q_ : Int) (r0 : Int → Option α) : Option α :=
  bif decide (q_ = 0) then
    none
  else
  bif decide (q_ = 0) then
    none
  else
  bif (!decide ((Int.tmod p_ q_) = 0)) then
    bif (!(decide (p_ < 0) == decide (q_ < 0))) then
      r0 (w64 ((w64 (Int.tdiv p_ q_)) - 1))
    else
      r0 (w64 (Int.tdiv p_ q_))
  else
    r0 (w64 (Int.tdiv p_ q_))

/-- loop.example/g01297/spec.l01Times -/
def spec_l01Times {α : Type} (k : Nat) (m : Int) (m1 : Int) (m2 : Int) (m3 : Int) (n_ : Int) (n_1 : Int) (n_2 : Int) (n_3 : Int) (r0 : Int → Int → Int → Int → Option α) : Option α :=
  r0 (w64 ((w64 (m * n_)) + (w64 (m1 * n_2)))) (w64 ((w64 (m * n_1)) + (w64 (m1 * n_3)))) (w64 ((w64 (m2 * n_)) + (w64 (m3 * n_2)))) (w64 ((w64 (m2 * n_1)) + (w64 (m3 * n_3))))

def spec_l09Frame_l14 {α : Type} : Nat → Int → (List (Int × Int)) → Int → Int → Int → Int → Int → Int → (List (Int × Int)) → (Int → (List (Int × Int)) → Int → Int → Int → Int → Int → Int → (List (Int × Int)) → Option α) → ((List (Int × Int)) → Option α) → Option α
  | 0, _, _, _, _, _, _, _, _, _, _, _ => none
  | k + 1, i, list1, a, a1, m, m1, m2, m3, out, b0, r0 =>
    bif decide (i < (((List.length list1) : Nat) : Int)) then
      bif (decide (0 ≤ i) && decide (i < (((List.length list1) : Nat) : Int))) then
        (list1[i.toNat]?).bind fun e_3 =>
        spec_l01Plus k e_3.1 e_3.2 a a1 (-1) fun v15 v16 =>
        spec_l01Apply k m m1 m2 m3 v15 v16 fun v17 v18 =>
        bif decide (((List.length out) + 1) ≤ big) then
          spec_l09Frame_l14 k (w64 (i + 1)) list1 a a1 m m1 m2 m3 (out ++ [(v17, v18)]) b0 r0
        else
          none
      else
        none
    else
      b0 i list1 a a1 m m1 m2 m3 out

/-- loop.example/g01297/spec.l09Frame -/
def spec_l09Frame {α : Type} (k : Nat) (list : List (Int × Int)) (r0 : (List (Int × Int)) → Option α) : Option α :=
  bif (true && decide (0 < (((List.length list) : Nat) : Int))) then
    (list[0]?).bind fun e_ =>
    bif (true && decide (1 < (((List.length list) : Nat) : Int))) then
      (list[1]?).bind fun e_1 =>
      bif (true && decide (2 < (((List.length list) : Nat) : Int))) then
        (list[2]?).bind fun e_2 =>
        spec_l01Plus k e_1.1 e_1.2 e_.1 e_.2 (-1) fun v v1 =>
        spec_l01Part k v v1 fun v2 v3 =>
        spec_l01Base k v2 v3 fun v4 v5 =>
        spec_l01Plus k e_2.1 e_2.2 e_1.1 e_1.2 (-1) fun v6 v7 =>
        spec_l01Apply k v5 (w64 (0 - v4)) (w64 (0 - v3)) v2 v6 v7 fun v8 v9 =>
        bif decide (v9 < 0) then
          spec_l01Floor k v8 (w64 (0 - v9)) fun v10 =>
          spec_l01Times k 1 (w64 (0 - v10)) 0 1 v5 (w64 (0 - v4)) (w64 (0 - (w64 (0 - v3)))) (w64 (0 - v2)) fun v11 v12 v13 v14 =>
          spec_l09Frame_l14 k 0 list e_.1 e_.2 v11 v12 v13 v14 []
            (fun _ _ _ _ _ _ _ _ out1 =>
              r0 out1)
            r0
        else
          spec_l01Floor k v8 v9 fun v19 =>
          spec_l01Times k 1 (w64 (0 - v19)) 0 1 v5 (w64 (0 - v4)) (w64 (0 - v3)) v2 fun v20 v21 v22 v23 =>
          spec_l09Frame_l14 k 0 list e_.1 e_.2 v20 v21 v22 v23 []
            (fun _ _ _ _ _ _ _ _ out2 =>
              r0 out2)
            r0
      else
        none
    else
      none
  else
    none

/-- loop.example/g01297/spec.l09Before -/
def spec_l09Before {α : Type} (k : Nat) (a : Int) (a1 : Int) (b_ : Int) (b_1 : Int) (r0 : Bool → Option α) : Option α :=
  bif decide (a < b_) then
    r0 true
  else
  bif decide (a = b_) then
    r0 (decide (a1 < b_1))
  else
    r0 false

def spec_l09Less_l2 {α : Type} : Nat → Int → (List (Int × Int)) → (List (Int × Int)) → (Int → (List (Int × Int)) → (List (Int × Int)) → Option α) → (Bool → Option α) → Option α
  | 0, _, _, _, _, _ => none
  | k + 1, i, a1, b_1, b0, r0 =>
    bif decide (i < (((List.length a1) : Nat) : Int)) then
      bif (decide (0 ≤ i) && decide (i < (((List.length a1) : Nat) : Int))) then
        (a1[i.toNat]?).bind fun e_ =>
        bif (decide (0 ≤ i) && decide (i < (((List.length b_1) : Nat) : Int))) then
          (b_1[i.toNat]?).bind fun e_1 =>
          bif (!(decide (e_.1 = e_1.1) && decide (e_.2 = e_1.2))) then
            bif (decide (0 ≤ i) && decide (i < (((List.length a1) : Nat) : Int))) then
              (a1[i.toNat]?).bind fun e_2 =>
              bif (decide (0 ≤ i) && decide (i < (((List.length b_1) : Nat) : Int))) then
                (b_1[i.toNat]?).bind fun e_3 =>
                spec_l09Before k e_2.1 e_2.2 e_3.1 e_3.2 fun v =>
                r0 v
              else
                none
            else
              none
          else
            spec_l09Less_l2 k (w64 (i + 1)) a1 b_1 b0 r0
        else
          none
      else
        none
    else
      b0 i a1 b_1

/-- loop.example/g01297/spec.l09Less -/
def spec_l09Less {α : Type} (k : Nat) (a : List (Int × Int)) (b_ : List (Int × Int)) (r0 : Bool → Option α) : Option α :=
  spec_l09Less_l2 k 0 a b_
    (fun _ _ _ =>
      r0 false)
    r0

def spec_l01Code_l2 {α : Type} : Nat → Int → (List (Int × Int)) → (Int → (List (Int × Int)) → Option α) → (Int → Option α) → Option α
  | 0, _, _, _, _ => none
  | k + 1, i, list1, b0, r0 =>
    bif decide (i < (((List.length list1) : Nat) : Int)) then
      bif (decide (0 ≤ i) && decide (i < (((List.length list1) : Nat) : Int))) then
        (list1[i.toNat]?).bind fun e_ =>
        spec_l01Is k e_.1 e_.2 fun v =>
        bif (!v) then
          r0 1
        else
          spec_l01Code_l2 k (w64 (i + 1)) list1 b0 r0
      else
        none
    else
      b0 i list1

/-- loop.example/g01297/spec.l01Code -/
def spec_l01Code {α : Type} (k : Nat) (list : List (Int × Int)) (r0 : Int → Option α) : Option α :=
  spec_l01Code_l2 k 0 list
    (fun _ _ =>
      r0 0)
    r0

def spec_l09Normal_l10 {α : Type} : Nat → Int → Int → Int → Int → (List (Int × Int)) → (List (Int × Int)) → (List (Int × Int)) → (Int → Int → Int → Int → (List (Int × Int)) → (List (Int × Int)) → (List (Int × Int)) → Option α) → ((List (Int × Int)) → Bool → Option α) → Option α
  | 0, _, _, _, _, _, _, _, _, _ => none
  | k + 1, n_2, way2, i1, k_, list3, best2, own, b4, r0 =>
    bif decide (k_ < n_2) then
      bif decide (way2 = 0) then
        bif decide (n_2 = 0) then
          none
        else
        bif (decide (0 ≤ (Int.tmod (w64 (i1 + k_)) n_2)) && decide ((Int.tmod (w64 (i1 + k_)) n_2) < (((List.length list3) : Nat) : Int))) then
          (list3[(Int.tmod (w64 (i1 + k_)) n_2).toNat]?).bind fun e_ =>
          bif decide (((List.length own) + 1) ≤ big) then
            spec_l09Normal_l10 k n_2 way2 i1 (w64 (k_ + 1)) list3 best2 (own ++ [(e_.1, e_.2)]) b4 r0
          else
            none
        else
          none
      else
      bif decide (n_2 = 0) then
        none
      else
      bif (decide (0 ≤ (Int.tmod (w64 ((w64 (i1 - k_)) + n_2)) n_2)) && decide ((Int.tmod (w64 ((w64 (i1 - k_)) + n_2)) n_2) < (((List.length list3) : Nat) : Int))) then
        (list3[(Int.tmod (w64 ((w64 (i1 - k_)) + n_2)) n_2).toNat]?).bind fun e_1 =>
        bif decide (((List.length own) + 1) ≤ big) then
          spec_l09Normal_l10 k n_2 way2 i1 (w64 (k_ + 1)) list3 best2 (own ++ [(e_1.1, e_1.2)]) b4 r0
        else
          none
      else
        none
    else
      b4 n_2 way2 i1 k_ list3 best2 own

def spec_l09Normal_l6 {α : Type} : Nat → Int → Int → Int → (List (Int × Int)) → (List (Int × Int)) → (Int → Int → Int → (List (Int × Int)) → (List (Int × Int)) → Option α) → ((List (Int × Int)) → Bool → Option α) → Option α
  | 0, _, _, _, _, _, _, _ => none
  | k + 1, n_1, way1, i, list2, best1, b2, r0 =>
    bif decide (i < n_1) then
      spec_l09Normal_l10 k n_1 way1 i 0 list2 best1 []
        (fun n_3 way3 i2 _ list4 best3 own1 =>
          spec_l09Frame k own1 fun v =>
          bif decide ((((List.length best3) : Nat) : Int) = 0) then
            spec_l09Normal_l6 k n_3 way3 (w64 (i2 + 1)) list4 v b2 r0
          else
            spec_l09Less k v best3 fun v1 =>
            bif v1 then
              spec_l09Normal_l6 k n_3 way3 (w64 (i2 + 1)) list4 v b2 r0
            else
              spec_l09Normal_l6 k n_3 way3 (w64 (i2 + 1)) list4 best3 b2 r0)
        r0
    else
      b2 n_1 way1 i list2 best1

def spec_l09Normal_l3 {α : Type} : Nat → Int → Int → (List (Int × Int)) → (List (Int × Int)) → (Int → Int → (List (Int × Int)) → (List (Int × Int)) → Option α) → ((List (Int × Int)) → Bool → Option α) → Option α
  | 0, _, _, _, _, _, _ => none
  | k + 1, n_, way, list1, best, b0, r0 =>
    bif decide (way < 2) then
      spec_l09Normal_l6 k n_ way 0 list1 best
        (fun n_4 way4 _ list5 best4 =>
          spec_l09Normal_l3 k n_4 (w64 (way4 + 1)) list5 best4 b0 r0)
        r0
    else
      b0 n_ way list1 best

/-- loop.example/g01297/spec.l09Normal -/
def spec_l09Normal {α : Type} (k : Nat) (list : List (Int × Int)) (r0 : (List (Int × Int)) → Bool → Option α) : Option α :=
  spec_l09Normal_l3 k (((List.length list) : Nat) : Int) 0 list []
    (fun _ _ _ best5 =>
      spec_l01Code k best5 fun v2 =>
      r0 best5 (decide (v2 = 0)))
    r0

def spec_AreLikePolygons_l10 {α : Type} : Nat → Bool → Int → (List (Int × Int)) → (List (Int × Int)) → (Bool → Int → (List (Int × Int)) → (List (Int × Int)) → Option α) → (Bool → Int → Option α) → Option α
  | 0, _, _, _, _, _, _ => none
  | k + 1, same, i, one, two, b0, r0 =>
    bif decide (i < (((List.length one) : Nat) : Int)) then
      bif same then
        bif (decide (0 ≤ i) && decide (i < (((List.length one) : Nat) : Int))) then
          (one[i.toNat]?).bind fun e_ =>
          bif (decide (0 ≤ i) && decide (i < (((List.length two) : Nat) : Int))) then
            (two[i.toNat]?).bind fun e_1 =>
            spec_AreLikePolygons_l10 k (decide (e_.1 = e_1.1) && decide (e_.2 = e_1.2)) (w64 (i + 1)) one two b0 r0
          else
            none
        else
          none
      else
        b0 same i one two
    else
      b0 same i one two

/-- loop.example/g01297/spec.AreLikePolygons -/
def spec_AreLikePolygons {α : Type} (k : Nat) (a : List (Int × Int)) (b_ : List (Int × Int)) (r0 : Bool → Int → Option α) : Option α :=
  spec_l09Code_0M2 k a b_ fun v =>
  bif (!decide (v = 0)) then
    r0 false v
  else
    spec_l09Normal k a fun v1 v2 =>
    spec_l09Normal k b_ fun v3 v4 =>
    bif (!v2) then
      r0 false 3
    else
    bif (!v4) then
      r0 false 3
    else
      spec_AreLikePolygons_l10 k (decide ((((List.length v1) : Nat) : Int) = (((List.length v3) : Nat) : Int))) 0 v1 v3
        (fun same1 _ _ _ =>
          r0 same1 0)
        r0

/-- loop.example/g01297/impl.in -/
def impl_in {α : Type} (k : Nat) (n_ : Int) (low : Int) (high : Int) (r0 : Bool → Option α) : Option α :=
  bif decide (low ≤ n_) then
    r0 (decide (n_ ≤ high))
  else
    r0 false

/-- loop.example/g01297/impl.small -/
def impl_small {α : Type} (k : Nat) (a : Int) (a1 : Int) (r0 : Bool → Option α) : Option α :=
  impl_in k a (-1000) 1000 fun v =>
  bif v then
    impl_in k a1 (-1000) 1000 fun v1 =>
    r0 v1
  else
    r0 false

/-- loop.example/g01297/impl.IsPolygon$1 -/
def impl_IsPolygon_1 {α : Type} (k : Nat) (a : Int) (a1 : Int) (r0 : Bool → Option α) : Option α :=
  impl_small k a a1 fun v =>
  r0 (!v)

def slices_IndexFunc_impl_Point_impl_Point_1F_impl_IsPolygon_1_l2 {α : Type} : Nat → Int → Int → (List (Int × Int)) → (Int → Int → (List (Int × Int)) → Option α) → (Int → Option α) → Option α
  | 0, _, _, _, _, _ => none
  | k + 1, x, x1, s1, b0, r0 =>
    bif decide (x1 < x) then
      bif (decide (0 ≤ x1) && decide (x1 < (((List.length s1) : Nat) : Int))) then
        (s1[x1.toNat]?).bind fun e_ =>
        impl_IsPolygon_1 k e_.1 e_.2 fun v =>
        bif v then
          r0 x1
        else
          slices_IndexFunc_impl_Point_impl_Point_1F_impl_IsPolygon_1_l2 k x (w64 (x1 + 1)) s1 b0 r0
      else
        none
    else
      b0 x x1 s1

/-- slices.IndexFunc[[]loop.example/g01297/impl.Point,loop.example/g01297/impl.Point] -/
def slices_IndexFunc_impl_Point_impl_Point_1F_impl_IsPolygon_1 {α : Type} (k : Nat) (s : List (Int × Int)) (r0 : Int → Option α) : Option α :=
  slices_IndexFunc_impl_Point_impl_Point_1F_impl_IsPolygon_1_l2 k (((List.length s) : Nat) : Int) 0 s
    (fun _ _ _ =>
      r0 (-1))
    r0

/-- slices.ContainsFunc[[]loop.example/g01297/impl.Point,loop.example/g01297/impl.Point] -/
def slices_ContainsFunc_impl_Point_impl_Point_1F_impl_IsPolygon_1 {α : Type} (k : Nat) (s : List (Int × Int)) (r0 : Bool → Option α) : Option α :=
  slices_IndexFunc_impl_Point_impl_Point_1F_impl_IsPolygon_1 k s fun v =>
  r0 (decide (0 ≤ v))

/-- (loop.example/g01297/impl.polygon).next -/
def impl_polygon_next {α : Type} (k : Nat) (p_ : List (Int × Int)) (i : Int) (r0 : Int → Int → Option α) : Option α :=
  bif decide ((((List.length p_) : Nat) : Int) = 0) then
    none
  else
  bif (decide (0 ≤ (Int.tmod (w64 (i + 1)) (((List.length p_) : Nat) : Int))) && decide ((Int.tmod (w64 (i + 1)) (((List.length p_) : Nat) : Int)) < (((List.length p_) : Nat) : Int))) then
    (p_[(Int.tmod (w64 (i + 1)) (((List.length p_) : Nat) : Int)).toNat]?).bind fun e_ =>
    r0 e_.1 e_.2
  else
    none

/-- (loop.example/g01297/impl.Point).plus -/
def impl_Point_plus {α : Type} (k : Nat) (a : Int) (a1 : Int) (b_ : Int) (b_1 : Int) (k_ : Int) (r0 : Int → Int → Option α) : Option α :=
  r0 (w64 (a + (w64 (k_ * b_)))) (w64 (a1 + (w64 (k_ * b_1))))

/-- (loop.example/g01297/impl.Point).less -/
def impl_Point_less {α : Type} (k : Nat) (a : Int) (a1 : Int) (b_ : Int) (b_1 : Int) (r0 : Int → Int → Option α) : Option α :=
  impl_Point_plus k a a1 b_ b_1 (-1) fun v v1 =>
  r0 v v1

/-- loop.example/g01297/impl.det -/
def impl_det {α : Type} (k : Nat) (a : Int) (a1 : Int) (b_ : Int) (b_1 : Int) (r0 : Int → Option α) : Option α :=
  r0 (w64 ((w64 (a * b_1)) - (w64 (a1 * b_))))

/-- loop.example/g01297/impl.turn -/
def impl_turn {α : Type} (k : Nat) (a : Int) (a1 : Int) (b_ : Int) (b_1 : Int) (c : Int) (c1 : Int) (r0 : Int → Option α) : Option α :=
  impl_Point_less k b_ b_1 a a1 fun v v1 =>
  impl_Point_less k c c1 b_ b_1 fun v2 v3 =>
  impl_det k v v1 v2 v3 fun v4 =>
  r0 v4

def impl_polygon_convex_l6 {α : Type} : Nat → Int → Int → Int → Int → Int → (List (Int × Int)) → Int → Int → Int → Int → (Int → Int → Int → Int → Int → (List (Int × Int)) → Int → Int → Int → Int → Option α) → (Bool → Option α) → Option α
  | 0, _, _, _, _, _, _, _, _, _, _, _, _ => none
  | k + 1, i, x2, x3, x4, x5, p_2, a, a1, b_, b_1, b2, r0 =>
    bif decide (x5 < x4) then
      bif (decide (0 ≤ x5) && decide (x5 < (((List.length p_2) : Nat) : Int))) then
        (p_2[x5.toNat]?).bind fun e_1 =>
        bif (!decide (x5 = i)) then
          bif decide ((((List.length p_2) : Nat) : Int) = 0) then
            none
          else
          bif (!decide (x5 = (Int.tmod (w64 (i + 1)) (((List.length p_2) : Nat) : Int)))) then
            impl_turn k a a1 b_ b_1 e_1.1 e_1.2 fun v2 =>
            bif decide (v2 ≤ 0) then
              r0 false
            else
              impl_polygon_convex_l6 k i x2 x3 x4 (w64 (x5 + 1)) p_2 a a1 b_ b_1 b2 r0
          else
            impl_polygon_convex_l6 k i x2 x3 x4 (w64 (x5 + 1)) p_2 a a1 b_ b_1 b2 r0
        else
          impl_polygon_convex_l6 k i x2 x3 x4 (w64 (x5 + 1)) p_2 a a1 b_ b_1 b2 r0
      else
        none
    else
      b2 i x2 x3 x4 x5 p_2 a a1 b_ b_1

def impl_polygon_convex_l2 {α : Type} : Nat → Int → Int → (List (Int × Int)) → (Int → Int → (List (Int × Int)) → Option α) → (Bool → Option α) → Option α
  | 0, _, _, _, _, _ => none
  | k + 1, x, x1, p_1, b0, r0 =>
    bif decide (x1 < x) then
      bif (decide (0 ≤ x1) && decide (x1 < (((List.length p_1) : Nat) : Int))) then
        (p_1[x1.toNat]?).bind fun e_ =>
        impl_polygon_next k p_1 x1 fun v v1 =>
        impl_polygon_convex_l6 k x1 x x1 (((List.length p_1) : Nat) : Int) 0 p_1 e_.1 e_.2 v v1
          (fun _ x6 x7 _ _ p_3 _ _ _ _ =>
            impl_polygon_convex_l2 k x6 (w64 (x7 + 1)) p_3 b0 r0)
          r0
      else
        none
    else
      b0 x x1 p_1

/-- (loop.example/g01297/impl.polygon).convex -/
def impl_polygon_convex {α : Type} (k : Nat) (p_ : List (Int × Int)) (r0 : Bool → Option α) : Option α :=
  impl_polygon_convex_l2 k (((List.length p_) : Nat) : Int) 0 p_
    (fun _ _ _ =>
      r0 true)
    r0

/-- loop.example/g01297/impl.IsPolygon -/
def impl_IsPolygon {α : Type} (k : Nat) (list : List (Int × Int)) (r0 : Bool → Option α) : Option α :=
  impl_in k (((List.length list) : Nat) : Int) 3 12 fun v =>
  bif (!v) then
    r0 false
  else
    slices_ContainsFunc_impl_Point_impl_Point_1F_impl_IsPolygon_1 k list fun v1 =>
    bif v1 then
      r0 false
    else
      impl_polygon_convex k list fun v2 =>
      r0 v2

/-- slices.Grow[loop.example/g01297/impl.polygon,loop.example/g01297/impl.Point] -/
def slices_Grow_impl_polygon_impl_Point_0N {α : Type} (k : Nat) (n_ : Int) (r0 : (List (Int × Int)) → Option α) (r1 : Option α) : Option α :=
  bif decide (n_ < 0) then
    none
  else
  bif decide (0 < (w64 (n_ - 0))) then
    bif (decide (1 ≤ (w64 (n_ - 0))) && decide ((w64 (n_ - 0)) ≤ (big : Int))) then
      bif (true && decide (0 ≤ (((List.length (List.replicate ((w64 (n_ - 0)).toNat) (0, 0))) : Nat) : Int))) then
        r0 (List.take 0 (List.replicate ((w64 (n_ - 0)).toNat) (0, 0)))
      else
        none
    else
      none
  else
    r1

/-- slices.Concat[loop.example/g01297/impl.polygon,loop.example/g01297/impl.Point] -/
def slices_Concat_impl_polygon_impl_Point_0M2 {α : Type} (k : Nat) (slices : List (Int × Int)) (slices1 : List (Int × Int)) (r0 : (List (Int × Int)) → Option α) : Option α :=
  bif decide ((w64 (0 + (((List.length slices) : Nat) : Int))) < 0) then
    none
  else
  bif decide ((w64 ((w64 (0 + (((List.length slices) : Nat) : Int))) + (((List.length slices1) : Nat) : Int))) < 0) then
    none
  else
    slices_Grow_impl_polygon_impl_Point_0N k (w64 ((w64 (0 + (((List.length slices) : Nat) : Int))) + (((List.length slices1) : Nat) : Int)))
      (fun v =>
        bif decide (((List.length v) + (List.length slices)) ≤ big) then
          bif decide (((List.length (v ++ slices)) + (List.length slices1)) ≤ big) then
            r0 ((v ++ slices) ++ slices1)
          else
            none
        else
          none)
      (
        bif decide ((List.length slices) ≤ big) then
          bif decide (((List.length slices) + (List.length slices1)) ≤ big) then
            r0 (slices ++ slices1)
          else
            none
        else
          none)

/-- loop.example/g01297/impl.size -/
def impl_size {α : Type} (k : Nat) (n_ : Int) (r0 : Int → Option α) : Option α :=
  r0 (max n_ (w64 (0 - n_)))

def impl_gcd_l1 {α : Type} : Nat → Int → Int → (Int → Int → Option α) → (Int → Option α) → Option α
  | 0, _, _, _, _ => none
  | k + 1, a1, b_1, b0, r0 =>
    bif (!decide (b_1 = 0)) then
      bif decide (b_1 = 0) then
        none
      else
        impl_gcd_l1 k b_1 (Int.tmod a1 b_1) b0 r0
    else
      b0 a1 b_1

/-- loop.example/g01297/impl.gcd -/
def impl_gcd {α : Type} (k : Nat) (a : Int) (b_ : Int) (r0 : Int → Option α) : Option α :=
  impl_gcd_l1 k a b_
    (fun a2 _ =>
      impl_size k a2 fun v =>
      r0 v)
    r0

/-- (loop.example/g01297/impl.Point).length -/
def impl_Point_length {α : Type} (k : Nat) (a : Int) (a1 : Int) (r0 : Int → Option α) : Option α :=
  impl_gcd k a a1 fun v =>
  r0 v

/-- (loop.example/g01297/impl.Point).primitive -/
def impl_Point_primitive {α : Type} (k : Nat) (a : Int) (a1 : Int) (r0 : Int → Int → Option α) : Option α :=
  impl_Point_length k a a1 fun v =>
  bif decide (v = 0) then
    none
  else
  bif decide (v = 0) then
    none
  else
    r0 (w64 (Int.tdiv a v)) (w64 (Int.tdiv a1 v))

/-- loop.example/g01297/impl.floor -/
def impl_floor {α : Type} (k : Nat) (a : Int) (b_ : Int) (r0 : Int → Option α) : Option α :=
  bif decide (b_ = 0) then
    none
  else
  bif decide (b_ = 0) then
    none
  else
  bif (!decide ((Int.tmod a b_) = 0)) then
    bif (!(decide (a < 0) == decide (b_ < 0))) then
      r0 (w64 ((w64 (Int.tdiv a b_)) - 1))
    else
      r0 (w64 (Int.tdiv a b_))
  else
    r0 (w64 (Int.tdiv a b_))

/-- loop.example/g01297/impl.mod -/
def impl_mod {α : Type} (k : Nat) (a : Int) (b_ : Int) (r0 : Int → Option α) : Option α :=
  impl_floor k a b_ fun v =>
  r0 (w64 (a - (w64 (b_ * v))))

def impl_bezout_l2 {α : Type} : Nat → Int → Int → Int → Int → Int → (Int → Int → Int → Int → Int → Option α) → (Int → Option α) → Option α
  | 0, _, _, _, _, _, _, _ => none
  | k + 1, m1, r_, s, x, y, b0, r0 =>
    bif (!decide (s = 0)) then
      bif decide (s = 0) then
        none
      else
        impl_bezout_l2 k m1 s (w64 (r_ - (w64 ((w64 (Int.tdiv r_ s)) * s)))) y (w64 (x - (w64 ((w64 (Int.tdiv r_ s)) * y)))) b0 r0
    else
      b0 m1 r_ s x y

/-- loop.example/g01297/impl.bezout -/
def impl_bezout {α : Type} (k : Nat) (a : Int) (m : Int) (r0 : Int → Option α) : Option α :=
  impl_mod k a m fun v =>
  impl_bezout_l2 k m v m 1 0
    (fun m2 _ _ x1 _ =>
      impl_mod k x1 m2 fun v1 =>
      r0 v1)
    r0

/-- (loop.example/g01297/impl.Point).mate -/
def impl_Point_mate {α : Type} (k : Nat) (a : Int) (a1 : Int) (r0 : Int → Int → Option α) : Option α :=
  bif decide (a = 0) then
    r0 (w64 (0 - a1)) 0
  else
    impl_size k a fun v =>
    impl_bezout k a1 v fun v1 =>
    impl_size k a fun v2 =>
    impl_mod k (w64 (0 - v1)) v2 fun v3 =>
    bif decide (a = 0) then
      none
    else
      r0 v3 (w64 (Int.tdiv (w64 (1 + (w64 (a1 * v3)))) a))

/-- loop.example/g01297/impl.ledBy$1 -/
def impl_ledBy_1_1P_2P_3P {α : Type} (k : Nat) (a : Int) (a1 : Int) (x : List (Int × Int)) (x1 : Int) (x2 : Int) (x3 : Int) (x4 : Int) (r0 : Int → Int → Option α) : Option α :=
  bif (true && decide (0 < (((List.length x) : Nat) : Int))) then
    (x[0]?).bind fun e_ =>
    bif (true && decide (0 < (((List.length x) : Nat) : Int))) then
      (x[0]?).bind fun e_1 =>
      impl_Point_less k a a1 e_.1 e_.2 fun v v1 =>
      impl_det k v v1 x1 x2 fun v2 =>
      impl_Point_less k a a1 e_1.1 e_1.2 fun v3 v4 =>
      impl_det k x3 x4 v3 v4 fun v5 =>
      r0 v2 v5
    else
      none
  else
    none

/-- loop.example/g01297/impl.sign -/
def impl_sign {α : Type} (k : Nat) (n_ : Int) (r0 : Int → Option α) : Option α :=
  bif decide (n_ < 0) then
    r0 (-1)
  else
    r0 1

def impl_ledBy_l9 {α : Type} : Nat → Int → Int → Int → Int → Int → Int → Int → Int → (List (Int × Int)) → (List (Int × Int)) → (Int → Int → Int → Int → Int → Int → Int → Int → (List (Int × Int)) → (List (Int × Int)) → Option α) → ((List (Int × Int)) → Option α) → Option α
  | 0, _, _, _, _, _, _, _, _, _, _, _, _ => none
  | k + 1, way, by_, x, x1, b_, b_1, b_2, b_3, out, x2, b0, r0 =>
    bif decide (x1 < x) then
      bif (decide (0 ≤ x1) && decide (x1 < (((List.length x2) : Nat) : Int))) then
        (x2[x1.toNat]?).bind fun e_4 =>
        impl_ledBy_1_1P_2P_3P k e_4.1 e_4.2 x2 b_ b_1 b_2 b_3 fun v13 v14 =>
        bif decide (((List.length out) + 1) ≤ big) then
          impl_ledBy_l9 k way by_ x (w64 (x1 + 1)) b_ b_1 b_2 b_3 (out ++ [((w64 (v13 + (w64 (by_ * v14)))), (w64 (way * v14)))]) x2 b0 r0
        else
          none
      else
        none
    else
      b0 way by_ x x1 b_ b_1 b_2 b_3 out x2

/-- loop.example/g01297/impl.ledBy -/
def impl_ledBy {α : Type} (k : Nat) (list : List (Int × Int)) (r0 : (List (Int × Int)) → Option α) : Option α :=
  bif (true && decide (1 < (((List.length list) : Nat) : Int))) then
    (list[1]?).bind fun e_ =>
    bif (true && decide (0 < (((List.length list) : Nat) : Int))) then
      (list[0]?).bind fun e_1 =>
      impl_Point_less k e_.1 e_.2 e_1.1 e_1.2 fun v v1 =>
      impl_Point_primitive k v v1 fun v2 v3 =>
      impl_Point_mate k v2 v3 fun v4 v5 =>
      bif (true && decide (1 < (((List.length list) : Nat) : Int))) then
        (list[1]?).bind fun e_2 =>
        impl_ledBy_1_1P_2P_3P k e_2.1 e_2.2 list v4 v5 v2 v3 fun v6 _ =>
        bif (true && decide (2 < (((List.length list) : Nat) : Int))) then
          (list[2]?).bind fun e_3 =>
          impl_ledBy_1_1P_2P_3P k e_3.1 e_3.2 list v4 v5 v2 v3 fun v8 v9 =>
          impl_sign k v9 fun v10 =>
          impl_size k v9 fun v11 =>
          impl_floor k (w64 (v8 - v6)) v11 fun v12 =>
          impl_ledBy_l9 k v10 (w64 ((w64 (0 - v10)) * v12)) (((List.length list) : Nat) : Int) 0 v4 v5 v2 v3 [] list
            (fun _ _ _ _ _ _ _ _ out1 _ =>
              r0 out1)
            r0
        else
          none
      else
        none
    else
      none
  else
    none

/-- cmp.isNaN[int64] -/
def cmp_isNaN_int64 {α : Type} (k : Nat) (x : Int) (r0 : Bool → Option α) : Option α :=
  r0 (!decide (x = x))

/-- cmp.Compare[int64] -/
def cmp_Compare_int64 {α : Type} (k : Nat) (x : Int) (y : Int) (r0 : Int → Option α) : Option α :=
  cmp_isNaN_int64 k x fun v =>
  cmp_isNaN_int64 k y fun v1 =>
  bif v then
    bif v1 then
      r0 0
    else
      r0 (-1)
  else
  bif v1 then
    r0 1
  else
  bif decide (x < y) then
    r0 (-1)
  else
  bif decide (y < x) then
    r0 1
  else
    r0 0

def cmp_Or_int_l3 {α : Type} : Nat → Int → Int → Int → List Int → (Int → Int → Int → List Int → Option α) → (Int → Option α) → Option α
  | 0, _, _, _, _, _, _ => none
  | k + 1, zero, x, x1, x2, b0, r0 =>
    bif decide (x1 < x) then
      bif (decide (0 ≤ x1) && decide (x1 < (((List.length x2) : Nat) : Int))) then
        (x2[x1.toNat]?).bind fun e_ =>
        bif (!decide (e_ = zero)) then
          r0 e_
        else
          cmp_Or_int_l3 k zero x (w64 (x1 + 1)) x2 b0 r0
      else
        none
    else
      b0 zero x x1 x2

/-- cmp.Or[int] -/
def cmp_Or_int {α : Type} (k : Nat) (vals : List Int) (r0 : Int → Option α) : Option α :=
  cmp_Or_int_l3 k 0 (((List.length vals) : Nat) : Int) 0 vals
    (fun zero1 _ _ _ =>
      r0 zero1)
    r0

/-- loop.example/g01297/impl.pointOrder -/
def impl_pointOrder {α : Type} (k : Nat) (a : Int) (a1 : Int) (b_ : Int) (b_1 : Int) (r0 : Int → Option α) : Option α :=
  cmp_Compare_int64 k a b_ fun v =>
  cmp_Compare_int64 k a1 b_1 fun v1 =>
  cmp_Or_int k [v, v1] fun v2 =>
  r0 v2

def slices_CompareFunc_impl_Point_impl_Point_impl_Point_impl_Point_2F_impl_pointOrder_l2 {α : Type} : Nat → Int → Int → (List (Int × Int)) → (List (Int × Int)) → (Int → Int → (List (Int × Int)) → (List (Int × Int)) → Option α) → (Int → Option α) → Option α
  | 0, _, _, _, _, _, _ => none
  | k + 1, x, x1, s11, s21, b0, r0 =>
    bif decide (x1 < x) then
      bif (decide (0 ≤ x1) && decide (x1 < (((List.length s11) : Nat) : Int))) then
        (s11[x1.toNat]?).bind fun e_ =>
        bif decide ((((List.length s21) : Nat) : Int) ≤ x1) then
          r0 1
        else
        bif (decide (0 ≤ x1) && decide (x1 < (((List.length s21) : Nat) : Int))) then
          (s21[x1.toNat]?).bind fun e_1 =>
          impl_pointOrder k e_.1 e_.2 e_1.1 e_1.2 fun v =>
          bif (!decide (v = 0)) then
            r0 v
          else
            slices_CompareFunc_impl_Point_impl_Point_impl_Point_impl_Point_2F_impl_pointOrder_l2 k x (w64 (x1 + 1)) s11 s21 b0 r0
        else
          none
      else
        none
    else
      b0 x x1 s11 s21

/-- slices.CompareFunc[[]loop.example/g01297/impl.Point,[]loop.example/g01297/impl.Point,loop.example/g01297/impl.Point,loop.example/g01297/impl.Point] -/
def slices_CompareFunc_impl_Point_impl_Point_impl_Point_impl_Point_2F_impl_pointOrder {α : Type} (k : Nat) (s1 : List (Int × Int)) (s2 : List (Int × Int)) (r0 : Int → Option α) : Option α :=
  slices_CompareFunc_impl_Point_impl_Point_impl_Point_impl_Point_2F_impl_pointOrder_l2 k (((List.length s1) : Nat) : Int) 0 s1 s2
    (fun _ _ s12 s22 =>
      bif decide ((((List.length s12) : Nat) : Int) < (((List.length s22) : Nat) : Int)) then
        r0 (-1)
      else
        r0 0)
    r0

/-- slices.Clone[loop.example/g01297/impl.polygon,loop.example/g01297/impl.Point] -/
def slices_Clone_impl_polygon_impl_Point {α : Type} (k : Nat) (s : List (Int × Int)) (r0 : (List (Int × Int)) → Option α) : Option α :=
  bif Nat.beq (List.length s) 0 then
    none
  else
  bif decide ((0 + (List.length s)) ≤ big) then
    r0 ([] ++ s)
  else
    none

def slices_Reverse_impl_polygon_impl_Point_l1 {α : Type} : Nat → Int → Int → (List (Int × Int)) → (Int → Int → (List (Int × Int)) → Option α) → ((List (Int × Int)) → Option α) → Option α
  | 0, _, _, _, _, _ => none
  | k + 1, i, j, s1, b0, r0 =>
    bif decide (i < j) then
      bif (decide (0 ≤ j) && decide (j < (((List.length s1) : Nat) : Int))) then
        (s1[j.toNat]?).bind fun e_ =>
        bif (decide (0 ≤ i) && decide (i < (((List.length s1) : Nat) : Int))) then
          (s1[i.toNat]?).bind fun e_1 =>
          bif (decide (0 ≤ i) && decide (i < (((List.length s1) : Nat) : Int))) then
            (s1[i.toNat]?).bind fun _ =>
            bif (decide (0 ≤ j) && decide (j < (((List.length (List.set s1 i.toNat (e_.1, e_.2))) : Nat) : Int))) then
              ((List.set s1 i.toNat (e_.1, e_.2))[j.toNat]?).bind fun _ =>
              slices_Reverse_impl_polygon_impl_Point_l1 k (w64 (i + 1)) (w64 (j - 1)) (List.set (List.set s1 i.toNat (e_.1, e_.2)) j.toNat (e_1.1, e_1.2)) b0 r0
            else
              none
          else
            none
        else
          none
      else
        none
    else
      b0 i j s1

/-- slices.Reverse[loop.example/g01297/impl.polygon,loop.example/g01297/impl.Point] -/
def slices_Reverse_impl_polygon_impl_Point {α : Type} (k : Nat) (s : List (Int × Int)) (r0 : (List (Int × Int)) → Option α) : Option α :=
  slices_Reverse_impl_polygon_impl_Point_l1 k 0 (w64 ((((List.length s) : Nat) : Int) - 1)) s
    (fun _ _ s2 =>
      r0 s2)
    r0

/-- loop.example/g01297/impl.isCoord -/
def impl_isCoord {α : Type} (k : Nat) (n_ : Int) (r0 : Bool → Option α) : Option α :=
  impl_in k n_ (-1000000) 1000000 fun v =>
  r0 v

/-- loop.example/g01297/impl.IsPoint -/
def impl_IsPoint {α : Type} (k : Nat) (a : Int) (a1 : Int) (r0 : Bool → Option α) : Option α :=
  impl_isCoord k a fun v =>
  bif v then
    impl_isCoord k a1 fun v1 =>
    r0 v1
  else
    r0 false

/-- loop.example/g01297/impl.points$1 -/
def impl_points_1 {α : Type} (k : Nat) (a : Int) (a1 : Int) (r0 : Bool → Option α) : Option α :=
  impl_IsPoint k a a1 fun v =>
  r0 (!v)

def slices_IndexFunc_impl_Point_impl_Point_1F_impl_points_1_l2 {α : Type} : Nat → Int → Int → (List (Int × Int)) → (Int → Int → (List (Int × Int)) → Option α) → (Int → Option α) → Option α
  | 0, _, _, _, _, _ => none
  | k + 1, x, x1, s1, b0, r0 =>
    bif decide (x1 < x) then
      bif (decide (0 ≤ x1) && decide (x1 < (((List.length s1) : Nat) : Int))) then
        (s1[x1.toNat]?).bind fun e_ =>
        impl_points_1 k e_.1 e_.2 fun v =>
        bif v then
          r0 x1
        else
          slices_IndexFunc_impl_Point_impl_Point_1F_impl_points_1_l2 k x (w64 (x1 + 1)) s1 b0 r0
      else
        none
    else
      b0 x x1 s1

/-- slices.IndexFunc[[]loop.example/g01297/impl.Point,loop.example/g01297/impl.Point] -/
def slices_IndexFunc_impl_Point_impl_Point_1F_impl_points_1 {α : Type} (k : Nat) (s : List (Int × Int)) (r0 : Int → Option α) : Option α :=
  slices_IndexFunc_impl_Point_impl_Point_1F_impl_points_1_l2 k (((List.length s) : Nat) : Int) 0 s
    (fun _ _ _ =>
      r0 (-1))
    r0

/-- slices.ContainsFunc[[]loop.example/g01297/impl.Point,loop.example/g01297/impl.Point] -/
def slices_ContainsFunc_impl_Point_impl_Point_1F_impl_points_1 {α : Type} (k : Nat) (s : List (Int × Int)) (r0 : Bool → Option α) : Option α :=
  slices_IndexFunc_impl_Point_impl_Point_1F_impl_points_1 k s fun v =>
  r0 (decide (0 ≤ v))

/-- loop.example/g01297/impl.points -/
def impl_points {α : Type} (k : Nat) (list : List (Int × Int)) (r0 : Bool → Option α) : Option α :=
  slices_ContainsFunc_impl_Point_impl_Point_1F_impl_points_1 k list fun v =>
  r0 (!v)

/-- slices.IndexFunc[[]loop.example/g01297/impl.Point,loop.example/g01297/impl.Point] -/
def slices_IndexFunc_impl_Point_impl_Point_0N_1F_impl_points_1 {α : Type} (k : Nat)  (r0 : Int → Option α) : Option α :=
  r0 (-1)

/-- slices.ContainsFunc[[]loop.example/g01297/impl.Point,loop.example/g01297/impl.Point] -/
def slices_ContainsFunc_impl_Point_impl_Point_0N_1F_impl_points_1 {α : Type} (k : Nat)  (r0 : Bool → Option α) : Option α :=
  slices_IndexFunc_impl_Point_impl_Point_0N_1F_impl_points_1 k fun v =>
  r0 (decide (0 ≤ v))

/-- loop.example/g01297/impl.points -/
def impl_points_0N {α : Type} (k : Nat)  (r0 : Bool → Option α) : Option α :=
  slices_ContainsFunc_impl_Point_impl_Point_0N_1F_impl_points_1 k fun v =>
  r0 (!v)

def impl_polygon_normal_l5 {α : Type} : Nat → Int → Int → (List (Int × Int)) → (List (Int × Int)) → (Int → Int → (List (Int × Int)) → (List (Int × Int)) → Option α) → (Int → Option α) → ((List (Int × Int)) → Int → Option α) → Option α
  | 0, _, _, _, _, _, _, _ => none
  | k + 1, x, x1, p_1, best, b2, r0, r1 =>
    bif decide (x1 < x) then
      bif (decide (0 ≤ x1) && decide (x1 ≤ (((List.length p_1) : Nat) : Int))) then
        bif (decide (0 ≤ x1) && decide (x1 ≤ (((List.length p_1) : Nat) : Int))) then
          slices_Concat_impl_polygon_impl_Point_0M2 k (List.take ((List.length p_1) - x1.toNat) (List.drop x1.toNat p_1)) (List.take (x1.toNat - 0) (List.drop 0 p_1)) fun v2 =>
          impl_ledBy k v2 fun v3 =>
          bif Nat.beq (List.length best) 0 then
            none
          else
            slices_CompareFunc_impl_Point_impl_Point_impl_Point_impl_Point_2F_impl_pointOrder k v3 best fun v4 =>
            bif decide (v4 < 0) then
              impl_polygon_normal_l5 k x (w64 (x1 + 1)) p_1 v3 b2 r0 r1
            else
              impl_polygon_normal_l5 k x (w64 (x1 + 1)) p_1 best b2 r0 r1
        else
          none
      else
        none
    else
      b2 x x1 p_1 best

def impl_polygon_normal_l100005 {α : Type} : Nat → Int → Int → (List (Int × Int)) → (List (Int × Int)) → (Int → Int → (List (Int × Int)) → (List (Int × Int)) → Option α) → (Int → Option α) → ((List (Int × Int)) → Int → Option α) → Option α
  | 0, _, _, _, _, _, _, _ => none
  | k + 1, x4, x5, p_3, best2, b2, r0, r1 =>
    bif decide (x5 < x4) then
      bif (decide (0 ≤ x5) && decide (x5 ≤ (((List.length p_3) : Nat) : Int))) then
        bif (decide (0 ≤ x5) && decide (x5 ≤ (((List.length p_3) : Nat) : Int))) then
          slices_Concat_impl_polygon_impl_Point_0M2 k (List.take ((List.length p_3) - x5.toNat) (List.drop x5.toNat p_3)) (List.take (x5.toNat - 0) (List.drop 0 p_3)) fun v10 =>
          impl_ledBy k v10 fun v11 =>
          bif Nat.beq (List.length best2) 0 then
            none
          else
            slices_CompareFunc_impl_Point_impl_Point_impl_Point_impl_Point_2F_impl_pointOrder k v11 best2 fun v12 =>
            bif decide (v12 < 0) then
              impl_polygon_normal_l100005 k x4 (w64 (x5 + 1)) p_3 v11 b2 r0 r1
            else
              impl_polygon_normal_l100005 k x4 (w64 (x5 + 1)) p_3 best2 b2 r0 r1
        else
          none
      else
        none
    else
      b2 x4 x5 p_3 best2

/-- (loop.example/g01297/impl.polygon).normal -/
def impl_polygon_normal {α : Type} (k : Nat) (p_ : List (Int × Int)) (r0 : Int → Option α) (r1 : (List (Int × Int)) → Int → Option α) : Option α :=
  bif decide (0 < (((List.length p_) : Nat) : Int)) then
    bif (true && decide (0 ≤ (((List.length p_) : Nat) : Int))) then
      bif (true && decide (0 ≤ (((List.length p_) : Nat) : Int))) then
        slices_Concat_impl_polygon_impl_Point_0M2 k (List.take ((List.length p_) - 0) (List.drop 0 p_)) (List.take 0 (List.drop 0 p_)) fun v =>
        impl_ledBy k v fun v1 =>
        impl_polygon_normal_l5 k (((List.length p_) : Nat) : Int) 1 p_ v1
          (fun _ _ p_2 best1 =>
            slices_Clone_impl_polygon_impl_Point k p_2 fun v5 =>
            slices_Reverse_impl_polygon_impl_Point k v5 fun v6 =>
            bif decide (0 < (((List.length v6) : Nat) : Int)) then
              bif (true && decide (0 ≤ (((List.length v6) : Nat) : Int))) then
                bif (true && decide (0 ≤ (((List.length v6) : Nat) : Int))) then
                  slices_Concat_impl_polygon_impl_Point_0M2 k (List.take ((List.length v6) - 0) (List.drop 0 v6)) (List.take 0 (List.drop 0 v6)) fun v7 =>
                  impl_ledBy k v7 fun v8 =>
                  bif Nat.beq (List.length best1) 0 then
                    none
                  else
                    slices_CompareFunc_impl_Point_impl_Point_impl_Point_impl_Point_2F_impl_pointOrder k v8 best1 fun v9 =>
                    bif decide (v9 < 0) then
                      impl_polygon_normal_l100005 k (((List.length v6) : Nat) : Int) 1 v6 v8
                        (fun _ _ p_4 best3 =>
                          slices_Clone_impl_polygon_impl_Point k p_4 fun v13 =>
                          slices_Reverse_impl_polygon_impl_Point k v13 fun _ =>
                          impl_points k best3 fun v15 =>
                          bif (!v15) then
                            r0 3
                          else
                            r1 best3 0)
                        r0 r1
                    else
                      impl_polygon_normal_l100005 k (((List.length v6) : Nat) : Int) 1 v6 best1
                        (fun _ _ p_5 best4 =>
                          slices_Clone_impl_polygon_impl_Point k p_5 fun v16 =>
                          slices_Reverse_impl_polygon_impl_Point k v16 fun _ =>
                          impl_points k best4 fun v18 =>
                          bif (!v18) then
                            r0 3
                          else
                            r1 best4 0)
                        r0 r1
                else
                  none
              else
                none
            else
              slices_Clone_impl_polygon_impl_Point k v6 fun v19 =>
              slices_Reverse_impl_polygon_impl_Point k v19 fun _ =>
              impl_points k best1 fun v21 =>
              bif (!v21) then
                r0 3
              else
                r1 best1 0)
          r0 r1
      else
        none
    else
      none
  else
    slices_Clone_impl_polygon_impl_Point k p_ fun v22 =>
    slices_Reverse_impl_polygon_impl_Point k v22 fun v23 =>
    bif decide (0 < (((List.length v23) : Nat) : Int)) then
      bif (true && decide (0 ≤ (((List.length v23) : Nat) : Int))) then
        bif (true && decide (0 ≤ (((List.length v23) : Nat) : Int))) then
          slices_Concat_impl_polygon_impl_Point_0M2 k (List.take ((List.length v23) - 0) (List.drop 0 v23)) (List.take 0 (List.drop 0 v23)) fun v24 =>
          impl_ledBy k v24 fun v25 =>
          impl_polygon_normal_l100005 k (((List.length v23) : Nat) : Int) 1 v23 v25
            (fun _ _ p_6 best5 =>
              slices_Clone_impl_polygon_impl_Point k p_6 fun v26 =>
              slices_Reverse_impl_polygon_impl_Point k v26 fun _ =>
              impl_points k best5 fun v28 =>
              bif (!v28) then
                r0 3
              else
                r1 best5 0)
            r0 r1
        else
          none
      else
        none
    else
      slices_Clone_impl_polygon_impl_Point k v23 fun v29 =>
      slices_Reverse_impl_polygon_impl_Point k v29 fun _ =>
      impl_points_0N k fun v31 =>
      bif (!v31) then
        r0 3
      else
        r0 0

/-- slices.Equal[[]loop.example/g01297/impl.Point,loop.example/g01297/impl.Point] -/
def slices_Equal_impl_Point_impl_Point_0N_1N {α : Type} (k : Nat)  (r0 : Bool → Option α) : Option α :=
  r0 true

/-- slices.Equal[[]loop.example/g01297/impl.Point,loop.example/g01297/impl.Point] -/
def slices_Equal_impl_Point_impl_Point_0N {α : Type} (k : Nat) (s2 : List (Int × Int)) (r0 : Bool → Option α) : Option α :=
  bif (!decide (0 = (((List.length s2) : Nat) : Int))) then
    r0 false
  else
    r0 true

def slices_Equal_impl_Point_impl_Point_1N_l4 {α : Type} : Nat → Int → Int → (List (Int × Int)) → (Int → Int → (List (Int × Int)) → Option α) → (Bool → Option α) → Option α
  | 0, _, _, _, _, _ => none
  | k + 1, x, x1, s11, b0, r0 =>
    bif decide (x1 < x) then
      bif (decide (0 ≤ x1) && decide (x1 < (((List.length s11) : Nat) : Int))) then
        (s11[x1.toNat]?).bind fun _ =>
        none
      else
        none
    else
      b0 x x1 s11

/-- slices.Equal[[]loop.example/g01297/impl.Point,loop.example/g01297/impl.Point] -/
def slices_Equal_impl_Point_impl_Point_1N {α : Type} (k : Nat) (s1 : List (Int × Int)) (r0 : Bool → Option α) : Option α :=
  bif (!decide ((((List.length s1) : Nat) : Int) = 0)) then
    r0 false
  else
    slices_Equal_impl_Point_impl_Point_1N_l4 k (((List.length s1) : Nat) : Int) 0 s1
      (fun _ _ _ =>
        r0 true)
      r0

def slices_Equal_impl_Point_impl_Point_l4 {α : Type} : Nat → Int → Int → (List (Int × Int)) → (List (Int × Int)) → (Int → Int → (List (Int × Int)) → (List (Int × Int)) → Option α) → (Bool → Option α) → Option α
  | 0, _, _, _, _, _, _ => none
  | k + 1, x, x1, s11, s21, b0, r0 =>
    bif decide (x1 < x) then
      bif (decide (0 ≤ x1) && decide (x1 < (((List.length s11) : Nat) : Int))) then
        (s11[x1.toNat]?).bind fun e_ =>
        bif (decide (0 ≤ x1) && decide (x1 < (((List.length s21) : Nat) : Int))) then
          (s21[x1.toNat]?).bind fun e_1 =>
          bif (!(decide (e_.1 = e_1.1) && decide (e_.2 = e_1.2))) then
            r0 false
          else
            slices_Equal_impl_Point_impl_Point_l4 k x (w64 (x1 + 1)) s11 s21 b0 r0
        else
          none
      else
        none
    else
      b0 x x1 s11 s21

/-- slices.Equal[[]loop.example/g01297/impl.Point,loop.example/g01297/impl.Point] -/
def slices_Equal_impl_Point_impl_Point {α : Type} (k : Nat) (s1 : List (Int × Int)) (s2 : List (Int × Int)) (r0 : Bool → Option α) : Option α :=
  bif (!decide ((((List.length s1) : Nat) : Int) = (((List.length s2) : Nat) : Int))) then
    r0 false
  else
    slices_Equal_impl_Point_impl_Point_l4 k (((List.length s1) : Nat) : Int) 0 s1 s2
      (fun _ _ _ _ =>
        r0 true)
      r0

/-- loop.example/g01297/impl.AreLikePolygons -/
def impl_AreLikePolygons {α : Type} (k : Nat) (a : List (Int × Int)) (b_ : List (Int × Int)) (r0 : Bool → Int → Option α) : Option α :=
  impl_IsPolygon k a fun v =>
  bif (!v) then
    r0 false 1
  else
    impl_IsPolygon k b_ fun v1 =>
    bif (!v1) then
      r0 false 1
    else
      impl_polygon_normal k a
        (fun v2 =>
          impl_polygon_normal k b_
            (fun v3 =>
              bif (!decide (v2 = 0)) then
                r0 false 3
              else
              bif (!decide (v3 = 0)) then
                r0 false 3
              else
                slices_Equal_impl_Point_impl_Point_0N_1N k fun v4 =>
                r0 v4 0)
            (fun v5 v6 =>
              bif (!decide (v2 = 0)) then
                r0 false 3
              else
              bif (!decide (v6 = 0)) then
                r0 false 3
              else
                slices_Equal_impl_Point_impl_Point_0N k v5 fun v7 =>
                r0 v7 0))
        (fun v8 v9 =>
          impl_polygon_normal k b_
            (fun v10 =>
              bif (!decide (v9 = 0)) then
                r0 false 3
              else
              bif (!decide (v10 = 0)) then
                r0 false 3
              else
                slices_Equal_impl_Point_impl_Point_1N k v8 fun v11 =>
                r0 v11 0)
            (fun v12 v13 =>
              bif (!decide (v9 = 0)) then
                r0 false 3
              else
              bif (!decide (v13 = 0)) then
                r0 false 3
              else
                slices_Equal_impl_Point_impl_Point k v8 v12 fun v14 =>
                r0 v14 0))

/-- loop.example/g01297/laws.eqPoint -/
def laws_eqPoint {α : Type} (k : Nat) (a : Int) (a1 : Int) (b_ : Int) (b_1 : Int) (r0 : Bool → Option α) : Option α :=
  bif (!decide (a = b_)) then
    r0 false
  else
  bif (!decide (a1 = b_1)) then
    r0 false
  else
    r0 true

def laws_eqPointS_l4 {α : Type} : Nat → Int → (List (Int × Int)) → (List (Int × Int)) → (Int → (List (Int × Int)) → (List (Int × Int)) → Option α) → (Bool → Option α) → Option α
  | 0, _, _, _, _, _ => none
  | k + 1, i, a1, b_1, b0, r0 =>
    bif decide (i < (((List.length a1) : Nat) : Int)) then
      bif (decide (0 ≤ i) && decide (i < (((List.length a1) : Nat) : Int))) then
        (a1[i.toNat]?).bind fun e_ =>
        bif (decide (0 ≤ i) && decide (i < (((List.length b_1) : Nat) : Int))) then
          (b_1[i.toNat]?).bind fun e_1 =>
          laws_eqPoint k e_.1 e_.2 e_1.1 e_1.2 fun v =>
          bif (!v) then
            r0 false
          else
            laws_eqPointS_l4 k (w64 (i + 1)) a1 b_1 b0 r0
        else
          none
      else
        none
    else
      b0 i a1 b_1

/-- loop.example/g01297/laws.eqPointS -/
def laws_eqPointS {α : Type} (k : Nat) (a : List (Int × Int)) (b_ : List (Int × Int)) (r0 : Bool → Option α) : Option α :=
  bif (!decide ((((List.length a) : Nat) : Int) = (((List.length b_) : Nat) : Int))) then
    r0 false
  else
    laws_eqPointS_l4 k 0 a b_
      (fun _ _ _ =>
        r0 true)
      r0

/-- loop.example/g01297/laws.FnExactAreLikePolygons -/
def laws_FnExactAreLikePolygons {α : Type} (k : Nat) (aA : List (Int × Int)) (aB : List (Int × Int)) (r0 : Bool → Option α) : Option α :=
  laws_szPointS k aA 1048576 fun v =>
  bif decide (v < 0) then
    r0 true
  else
    laws_szPointS k aB v fun v1 =>
    bif decide (v1 < 0) then
      r0 true
    else
      laws_toPointS k aA fun v2 =>
      laws_toPointS k aB fun v3 =>
      spec_AreLikePolygons k v2 v3 fun v4 v5 =>
      laws_toPointS k aA fun v6 =>
      laws_toPointS k aB fun v7 =>
      impl_AreLikePolygons k v6 v7 fun v8 v9 =>
      bif (!(v8 == v4)) then
        r0 false
      else
      bif (!decide (v9 = v5)) then
        r0 false
      else
        laws_toPointS k aA fun v10 =>
        laws_eqPointS k v6 v10 fun v11 =>
        bif (!v11) then
          r0 false
        else
          laws_toPointS k aB fun v12 =>
          laws_eqPointS k v7 v12 fun v13 =>
          bif (!v13) then
            r0 false
          else
            r0 true

end Go.Sh
