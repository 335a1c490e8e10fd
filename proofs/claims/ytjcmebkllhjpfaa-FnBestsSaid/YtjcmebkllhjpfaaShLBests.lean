/- The program's functions, read without memory: printed by a program of ours. -/
import Derived.Test.YtjcmebkllhjpfaaMaB
namespace Go.Sh
open Go Go.Ev

/-- loop.example/g01297/laws.big -/
def laws_big {α : Type} (k : Nat) (code : List Int) (r0 : Bool → Option α) : Option α :=
  r0 (decide (4096 < (((List.length code) : Nat) : Int)))

def spec_l01From_l3 {α : Type} : Nat → Int → List Int → Int → Int → (Int → List Int → Int → Int → Option α) → (Int → Int → Option α) → Option α
  | 0, _, _, _, _, _, _ => none
  | k + 1, i, code1, s, s1, b0, r0 =>
    bif decide (i < (((List.length code1) : Nat) : Int)) then
      bif decide (i < 4096) then
        bif (decide (0 ≤ i) && decide (i < (((List.length code1) : Nat) : Int))) then
          (code1[i.toNat]?).bind fun e_ =>
          spec_l01From_l3 k (w64 (i + 1)) code1 s (IntKind.wrap .u64 ((IntKind.wrap .u64 ((IntKind.wrap .u64 (s1 * 1099511628211)) + (IntKind.wrap .u64 e_))) + 107)) b0 r0
        else
          none
      else
        b0 i code1 s s1
    else
      b0 i code1 s s1

/-- loop.example/g01297/spec.l01From -/
def spec_l01From {α : Type} (k : Nat) (code : List Int) (r0 : Int → Int → Option α) : Option α :=
  spec_l01From_l3 k 0 code 0 (IntKind.wrap .u64 (12971 + (IntKind.wrap .u64 (((List.length code) : Nat) : Int))))
    (fun _ _ s2 s3 =>
      r0 s2 s3)
    r0

/-- loop.example/g01297/spec.l01Next -/
def spec_l01Next {α : Type} (k : Nat) (s : List Int) (s1 : Int) (s2 : Int) (n_ : Int) (r0 : Int → Int → Int → Option α) : Option α :=
  bif decide (n_ < 1) then
    r0 0 s1 s2
  else
  bif decide (s1 < (((List.length s) : Nat) : Int)) then
    bif (decide (0 ≤ s1) && decide (s1 < (((List.length s) : Nat) : Int))) then
      (s[s1.toNat]?).bind fun e_ =>
      bif decide (n_ = 0) then
        none
      else
        r0 (Int.tmod (w64 ((w64 (IntKind.wrap .u64 ((BitVec.ofInt 64 (Int.fdiv (IntKind.wrap .u64 ((IntKind.wrap .u64 (s2 * 6364136223846793005)) + 1442695040888963407)) (2 ^ 31)) &&& BitVec.ofInt 64 1073741823).toNat))) + (w64 e_))) n_) (w64 (s1 + 1)) (IntKind.wrap .u64 ((IntKind.wrap .u64 (s2 * 6364136223846793005)) + 1442695040888963407))
    else
      none
  else
  bif decide (n_ = 0) then
    none
  else
    r0 (Int.tmod (w64 (IntKind.wrap .u64 ((BitVec.ofInt 64 (Int.fdiv (IntKind.wrap .u64 ((IntKind.wrap .u64 (s2 * 6364136223846793005)) + 1442695040888963407)) (2 ^ 31)) &&& BitVec.ofInt 64 1073741823).toNat))) n_) s1 (IntKind.wrap .u64 ((IntKind.wrap .u64 (s2 * 6364136223846793005)) + 1442695040888963407))

/-- loop.example/g01297/spec.l01Pick -/
def spec_l01Pick {α : Type} (k : Nat) (s : List Int) (s1 : Int) (s2 : Int) (list : List Int) (r0 : Int → Int → Int → Option α) : Option α :=
  spec_l01Next k s s1 s2 (((List.length list) : Nat) : Int) fun v v1 v2 =>
  bif (decide (0 ≤ v) && decide (v < (((List.length list) : Nat) : Int))) then
    (list[v.toNat]?).bind fun e_ =>
    r0 e_ v1 v2
  else
    none

/-- loop.example/g01297/spec.l01Near -/
def spec_l01Near {α : Type} (k : Nat) (s : List Int) (s1 : Int) (s2 : Int) (most : Int) (r0 : Int → Int → Int → Option α) : Option α :=
  spec_l01Next k s s1 s2 14 fun v v1 v2 =>
  bif decide (v = 0) then
    spec_l01Pick k s v1 v2 [(-1), (w64 (most + 1)), 1099511627776, (-4611686018427387904)] fun v3 v4 v5 =>
    r0 v3 v4 v5
  else
    spec_l01Next k s v1 v2 (w64 (most + 1)) fun v6 v7 v8 =>
    r0 v6 v7 v8

/-- loop.example/g01297/spec.l10Draw -/
def spec_l10Draw {α : Type} (k : Nat) (s : List Int) (s1 : Int) (s2 : Int) (r0 : Int → Int → Int → Int → Option α) : Option α :=
  spec_l01Next k s s1 s2 12 fun v v1 v2 =>
  spec_l01Next k s v1 v2 100 fun v3 v4 v5 =>
  spec_l01Near k s v4 v5 1000000 fun v6 v7 v8 =>
  spec_l01Pick k s v7 v8 [(w64 (1 + v)), (w64 (1 + v3)), v6] fun v9 v10 v11 =>
  spec_l01Next k s v10 v11 (w64 ((w64 (3 * (max v9 1))) + 1)) fun v12 v13 v14 =>
  spec_l01Next k s v13 v14 30 fun v15 v16 v17 =>
  bif decide (v15 = 0) then
    spec_l01Pick k s v16 v17 [0, (-3), 1000001] fun v18 v19 v20 =>
    r0 (w64 (v12 - v9)) v18 v19 v20
  else
  bif decide (v15 = 1) then
    spec_l01Pick k s v16 v17 [1000000, (-1000000), 1000001] fun v21 v22 v23 =>
    r0 v21 v9 v22 v23
  else
    r0 (w64 (v12 - v9)) v9 v16 v17

/-- loop.example/g01297/spec.l10With -/
def spec_l10With {α : Type} (k : Nat) (code : List Int) (most : Int) (r0 : Int → Int → Int → Option α) : Option α :=
  spec_l01From k code fun v v1 =>
  spec_l10Draw k code v v1 fun v2 v3 v4 v5 =>
  spec_l01Next k code v4 v5 12 fun v6 v7 v8 =>
  spec_l01Next k code v7 v8 60 fun v9 v10 v11 =>
  spec_l01Near k code v10 v11 most fun v12 v13 v14 =>
  spec_l01Pick k code v13 v14 [(w64 (1 + v6)), (w64 (1 + v9)), v12] fun v15 _ _ =>
  r0 v2 v3 v15

/-- loop.example/g01297/spec.DrawBestOfSecond -/
def spec_DrawBestOfSecond {α : Type} (k : Nat) (code : List Int) (r0 : Int → Int → Int → Option α) : Option α :=
  spec_l10With k code 2000 fun v v1 v2 =>
  r0 v v1 v2

/-- loop.example/g01297/impl.in -/
def impl_in {α : Type} (k : Nat) (n_ : Int) (low : Int) (high : Int) (r0 : Bool → Option α) : Option α :=
  bif decide (low ≤ n_) then
    r0 (decide (n_ ≤ high))
  else
    r0 false

/-- loop.example/g01297/impl.isCoord -/
def impl_isCoord {α : Type} (k : Nat) (n_ : Int) (r0 : Bool → Option α) : Option α :=
  impl_in k n_ (-1000000) 1000000 fun v =>
  r0 v

/-- loop.example/g01297/impl.ratioOk -/
def impl_ratioOk {α : Type} (k : Nat) (p_ : Int) (q_ : Int) (r0 : Bool → Option α) : Option α :=
  impl_isCoord k p_ fun v =>
  bif v then
    impl_in k q_ 1 1000000 fun v1 =>
    r0 v1
  else
    r0 false

/-- loop.example/g01297/impl.bestOk -/
def impl_bestOk {α : Type} (k : Nat) (p_ : Int) (q_ : Int) (n_ : Int) (r0 : Bool → Option α) : Option α :=
  impl_ratioOk k p_ q_ fun v =>
  bif v then
    impl_in k n_ 1 100000 fun v1 =>
    r0 v1
  else
    r0 false

/-- loop.example/g01297/impl.floor -/
def impl_floor {α : Type} (k : Nat) (a : Int) (b_ : Int) (r0 : Int → Option α) : Option α :=
  bif decide (b_ = 0) then
    none
  else
  bif decide (b_ = 0) then
    none
  else
  bif (!decide ((Int.tmod a b_) = 0)) then
    bif (!(decide (a < 0) == decide (b_ < 0))) then
      r0 (w64 ((w64 (Int.tdiv a b_)) - 1))
    else
      r0 (w64 (Int.tdiv a b_))
  else
    r0 (w64 (Int.tdiv a b_))

/-- loop.example/g01297/impl.size -/
def impl_size {α : Type} (k : Nat) (n_ : Int) (r0 : Int → Option α) : Option α :=
  r0 (max n_ (w64 (0 - n_)))

/-- loop.example/g01297/impl.BestOfSecond$1 -/
def impl_BestOfSecond_1 {α : Type} (k : Nat) (x : Int) (r0 : Int → Option α) : Option α :=
  r0 1

def impl_records_3F_impl_BestOfSecond_1_l3 {α : Type} : Nat → Int → Int → Int → Int → Int → Int → (List (Int × Int)) → (Int → Int → Int → Int → Int → Int → (List (Int × Int)) → Option α) → ((List (Int × Int)) → Option α) → Option α
  | 0, _, _, _, _, _, _, _, _, _ => none
  | k + 1, p_1, q_1, n_1, best, bestBy, k_, out, b0, r0 =>
    bif decide (k_ ≤ n_1) then
      impl_floor k (w64 (k_ * p_1)) q_1 fun v =>
      bif decide (q_1 < (w64 (2 * (w64 ((w64 (k_ * p_1)) - (w64 (v * q_1))))))) then
        impl_size k (w64 ((w64 (k_ * p_1)) - (w64 ((w64 (v + 1)) * q_1)))) fun v1 =>
        bif decide (bestBy = 0) then
          bif decide (((List.length out) + 1) ≤ big) then
            impl_BestOfSecond_1 k k_ fun v2 =>
            impl_records_3F_impl_BestOfSecond_1_l3 k p_1 q_1 n_1 v1 v2 (w64 (k_ + 1)) (out ++ [((w64 (v + 1)), k_)]) b0 r0
          else
            none
        else
          impl_BestOfSecond_1 k k_ fun v3 =>
          bif decide ((w64 (v1 * bestBy)) < (w64 (best * v3))) then
            bif decide (((List.length out) + 1) ≤ big) then
              impl_BestOfSecond_1 k k_ fun v4 =>
              impl_records_3F_impl_BestOfSecond_1_l3 k p_1 q_1 n_1 v1 v4 (w64 (k_ + 1)) (out ++ [((w64 (v + 1)), k_)]) b0 r0
            else
              none
          else
            impl_records_3F_impl_BestOfSecond_1_l3 k p_1 q_1 n_1 best bestBy (w64 (k_ + 1)) out b0 r0
      else
        impl_size k (w64 ((w64 (k_ * p_1)) - (w64 (v * q_1)))) fun v5 =>
        bif decide (bestBy = 0) then
          bif decide (((List.length out) + 1) ≤ big) then
            impl_BestOfSecond_1 k k_ fun v6 =>
            impl_records_3F_impl_BestOfSecond_1_l3 k p_1 q_1 n_1 v5 v6 (w64 (k_ + 1)) (out ++ [(v, k_)]) b0 r0
          else
            none
        else
          impl_BestOfSecond_1 k k_ fun v7 =>
          bif decide ((w64 (v5 * bestBy)) < (w64 (best * v7))) then
            bif decide (((List.length out) + 1) ≤ big) then
              impl_BestOfSecond_1 k k_ fun v8 =>
              impl_records_3F_impl_BestOfSecond_1_l3 k p_1 q_1 n_1 v5 v8 (w64 (k_ + 1)) (out ++ [(v, k_)]) b0 r0
            else
              none
          else
            impl_records_3F_impl_BestOfSecond_1_l3 k p_1 q_1 n_1 best bestBy (w64 (k_ + 1)) out b0 r0
    else
      b0 p_1 q_1 n_1 best bestBy k_ out

/-- loop.example/g01297/impl.records -/
def impl_records_3F_impl_BestOfSecond_1 {α : Type} (k : Nat) (p_ : Int) (q_ : Int) (n_ : Int) (r0 : (List (Int × Int)) → Option α) : Option α :=
  impl_records_3F_impl_BestOfSecond_1_l3 k p_ q_ n_ 0 0 1 []
    (fun _ _ _ _ _ _ out1 =>
      r0 out1)
    r0

/-- loop.example/g01297/impl.BestOfSecond -/
def impl_BestOfSecond {α : Type} (k : Nat) (p_ : Int) (q_ : Int) (n_ : Int) (r0 : Int → Option α) (r1 : (List (Int × Int)) → Int → Option α) : Option α :=
  impl_bestOk k p_ q_ n_ fun v =>
  bif (!v) then
    r0 2
  else
    impl_records_3F_impl_BestOfSecond_1 k p_ q_ n_ fun v1 =>
    r1 v1 0

/-- loop.example/g01297/spec.l01In -/
def spec_l01In {α : Type} (k : Nat) (n_ : Int) (low : Int) (high : Int) (r0 : Bool → Option α) : Option α :=
  bif decide (low ≤ n_) then
    r0 (decide (n_ ≤ high))
  else
    r0 false

/-- loop.example/g01297/spec.l01Fits -/
def spec_l01Fits {α : Type} (k : Nat) (x : Int) (r0 : Bool → Option α) : Option α :=
  spec_l01In k x (-1000000) 1000000 fun v =>
  r0 v

/-- loop.example/g01297/spec.l10Ratio -/
def spec_l10Ratio {α : Type} (k : Nat) (p_ : Int) (q_ : Int) (low : Int) (r0 : Bool → Option α) : Option α :=
  spec_l01Fits k p_ fun v =>
  bif v then
    spec_l01In k q_ low 1000000 fun v1 =>
    r0 v1
  else
    r0 false

/-- loop.example/g01297/spec.l01Floor -/
def spec_l01Floor {α : Type} (k : Nat) (p_ : Int) (q_ : Int) (r0 : Int → Option α) : Option α :=
  bif decide (q_ = 0) then
    none
  else
  bif decide (q_ = 0) then
    none
  else
  bif (!decide ((Int.tmod p_ q_) = 0)) then
    bif (!(decide (p_ < 0) == decide (q_ < 0))) then
      r0 (w64 ((w64 (Int.tdiv p_ q_)) - 1))
    else
      r0 (w64 (Int.tdiv p_ q_))
  else
    r0 (w64 (Int.tdiv p_ q_))

/-- loop.example/g01297/spec.l10Near -/
def spec_l10Near {α : Type} (k : Nat) (x : Int) (q_ : Int) (r0 : Int → Int → Option α) : Option α :=
  spec_l01Floor k x q_ fun v =>
  bif decide ((w64 (q_ - (w64 (x - (w64 (v * q_)))))) < (w64 (x - (w64 (v * q_))))) then
    r0 (w64 (v + 1)) (w64 (q_ - (w64 (x - (w64 (v * q_))))))
  else
    r0 v (w64 (x - (w64 (v * q_))))

def spec_l10Best_l3 {α : Type} : Nat → Int → Int → Int → Bool → Int → Int → Int → (List (Int × Int)) → (Int → Int → Int → Bool → Int → Int → Int → (List (Int × Int)) → Option α) → ((List (Int × Int)) → Option α) → Option α
  | 0, _, _, _, _, _, _, _, _, _, _ => none
  | k + 1, p_1, q_1, n_1, second1, last, under, k_, out, b0, r0 =>
    bif decide (k_ ≤ n_1) then
      spec_l10Near k (w64 (k_ * p_1)) q_1 fun v v1 =>
      bif decide ((((List.length out) : Nat) : Int) = 0) then
        bif decide (((List.length out) + 1) ≤ big) then
          bif decide (v1 = 0) then
            b0 p_1 q_1 n_1 second1 v1 k_ k_ (out ++ [(v, k_)])
          else
            spec_l10Best_l3 k p_1 q_1 n_1 second1 v1 k_ (w64 (k_ + 1)) (out ++ [(v, k_)]) b0 r0
        else
          none
      else
      bif second1 then
        bif decide (v1 < last) then
          bif decide (((List.length out) + 1) ≤ big) then
            bif decide (v1 = 0) then
              b0 p_1 q_1 n_1 second1 v1 k_ k_ (out ++ [(v, k_)])
            else
              spec_l10Best_l3 k p_1 q_1 n_1 second1 v1 k_ (w64 (k_ + 1)) (out ++ [(v, k_)]) b0 r0
          else
            none
        else
        bif (!second1) then
          bif decide ((w64 (v1 * under)) < (w64 (last * k_))) then
            bif decide (((List.length out) + 1) ≤ big) then
              bif decide (v1 = 0) then
                b0 p_1 q_1 n_1 second1 v1 k_ k_ (out ++ [(v, k_)])
              else
                spec_l10Best_l3 k p_1 q_1 n_1 second1 v1 k_ (w64 (k_ + 1)) (out ++ [(v, k_)]) b0 r0
            else
              none
          else
          bif decide (v1 = 0) then
            b0 p_1 q_1 n_1 second1 last under k_ out
          else
            spec_l10Best_l3 k p_1 q_1 n_1 second1 last under (w64 (k_ + 1)) out b0 r0
        else
        bif decide (v1 = 0) then
          b0 p_1 q_1 n_1 second1 last under k_ out
        else
          spec_l10Best_l3 k p_1 q_1 n_1 second1 last under (w64 (k_ + 1)) out b0 r0
      else
      bif (!second1) then
        bif decide ((w64 (v1 * under)) < (w64 (last * k_))) then
          bif decide (((List.length out) + 1) ≤ big) then
            bif decide (v1 = 0) then
              b0 p_1 q_1 n_1 second1 v1 k_ k_ (out ++ [(v, k_)])
            else
              spec_l10Best_l3 k p_1 q_1 n_1 second1 v1 k_ (w64 (k_ + 1)) (out ++ [(v, k_)]) b0 r0
          else
            none
        else
        bif decide (v1 = 0) then
          b0 p_1 q_1 n_1 second1 last under k_ out
        else
          spec_l10Best_l3 k p_1 q_1 n_1 second1 last under (w64 (k_ + 1)) out b0 r0
      else
      bif decide (v1 = 0) then
        b0 p_1 q_1 n_1 second1 last under k_ out
      else
        spec_l10Best_l3 k p_1 q_1 n_1 second1 last under (w64 (k_ + 1)) out b0 r0
    else
      b0 p_1 q_1 n_1 second1 last under k_ out

/-- loop.example/g01297/spec.l10Best -/
def spec_l10Best {α : Type} (k : Nat) (p_ : Int) (q_ : Int) (n_ : Int) (second : Bool) (r0 : (List (Int × Int)) → Option α) : Option α :=
  spec_l10Best_l3 k p_ q_ n_ second 0 1 1 []
    (fun _ _ _ _ _ _ _ out1 =>
      r0 out1)
    r0

/-- loop.example/g01297/spec.BestOfSecond -/
def spec_BestOfSecond {α : Type} (k : Nat) (p_ : Int) (q_ : Int) (n_ : Int) (r0 : Int → Option α) (r1 : (List (Int × Int)) → Int → Option α) : Option α :=
  spec_l10Ratio k p_ q_ 1 fun v =>
  bif (!v) then
    r0 2
  else
    spec_l01In k n_ 1 100000 fun v1 =>
    bif (!v1) then
      r0 2
    else
      spec_l10Best k p_ q_ n_ true fun v2 =>
      r1 v2 0

/-- loop.example/g01297/laws.points9 -/
def laws_points9_0N_1N {α : Type} (k : Nat)  (r0 : Bool → Option α) : Option α :=
  r0 true

/-- loop.example/g01297/spec.DrawBestOfFirst -/
def spec_DrawBestOfFirst {α : Type} (k : Nat) (code : List Int) (r0 : Int → Int → Int → Option α) : Option α :=
  spec_l10With k code 2000 fun v v1 v2 =>
  r0 v v1 v2

/-- loop.example/g01297/impl.bestOfFirst$1 -/
def impl_bestOfFirst_1 {α : Type} (k : Nat) (k_ : Int) (r0 : Int → Option α) : Option α :=
  r0 k_

def impl_records_3F_impl_bestOfFirst_1_l3 {α : Type} : Nat → Int → Int → Int → Int → Int → Int → (List (Int × Int)) → (Int → Int → Int → Int → Int → Int → (List (Int × Int)) → Option α) → ((List (Int × Int)) → Option α) → Option α
  | 0, _, _, _, _, _, _, _, _, _ => none
  | k + 1, p_1, q_1, n_1, best, bestBy, k_, out, b0, r0 =>
    bif decide (k_ ≤ n_1) then
      impl_floor k (w64 (k_ * p_1)) q_1 fun v =>
      bif decide (q_1 < (w64 (2 * (w64 ((w64 (k_ * p_1)) - (w64 (v * q_1))))))) then
        impl_size k (w64 ((w64 (k_ * p_1)) - (w64 ((w64 (v + 1)) * q_1)))) fun v1 =>
        bif decide (bestBy = 0) then
          bif decide (((List.length out) + 1) ≤ big) then
            impl_bestOfFirst_1 k k_ fun v2 =>
            impl_records_3F_impl_bestOfFirst_1_l3 k p_1 q_1 n_1 v1 v2 (w64 (k_ + 1)) (out ++ [((w64 (v + 1)), k_)]) b0 r0
          else
            none
        else
          impl_bestOfFirst_1 k k_ fun v3 =>
          bif decide ((w64 (v1 * bestBy)) < (w64 (best * v3))) then
            bif decide (((List.length out) + 1) ≤ big) then
              impl_bestOfFirst_1 k k_ fun v4 =>
              impl_records_3F_impl_bestOfFirst_1_l3 k p_1 q_1 n_1 v1 v4 (w64 (k_ + 1)) (out ++ [((w64 (v + 1)), k_)]) b0 r0
            else
              none
          else
            impl_records_3F_impl_bestOfFirst_1_l3 k p_1 q_1 n_1 best bestBy (w64 (k_ + 1)) out b0 r0
      else
        impl_size k (w64 ((w64 (k_ * p_1)) - (w64 (v * q_1)))) fun v5 =>
        bif decide (bestBy = 0) then
          bif decide (((List.length out) + 1) ≤ big) then
            impl_bestOfFirst_1 k k_ fun v6 =>
            impl_records_3F_impl_bestOfFirst_1_l3 k p_1 q_1 n_1 v5 v6 (w64 (k_ + 1)) (out ++ [(v, k_)]) b0 r0
          else
            none
        else
          impl_bestOfFirst_1 k k_ fun v7 =>
          bif decide ((w64 (v5 * bestBy)) < (w64 (best * v7))) then
            bif decide (((List.length out) + 1) ≤ big) then
              impl_bestOfFirst_1 k k_ fun v8 =>
              impl_records_3F_impl_bestOfFirst_1_l3 k p_1 q_1 n_1 v5 v8 (w64 (k_ + 1)) (out ++ [(v, k_)]) b0 r0
            else
              none
          else
            impl_records_3F_impl_bestOfFirst_1_l3 k p_1 q_1 n_1 best bestBy (w64 (k_ + 1)) out b0 r0
    else
      b0 p_1 q_1 n_1 best bestBy k_ out

/-- loop.example/g01297/impl.records -/
def impl_records_3F_impl_bestOfFirst_1 {α : Type} (k : Nat) (p_ : Int) (q_ : Int) (n_ : Int) (r0 : (List (Int × Int)) → Option α) : Option α :=
  impl_records_3F_impl_bestOfFirst_1_l3 k p_ q_ n_ 0 0 1 []
    (fun _ _ _ _ _ _ out1 =>
      r0 out1)
    r0

/-- loop.example/g01297/impl.bestOfFirst -/
def impl_bestOfFirst {α : Type} (k : Nat) (p_ : Int) (q_ : Int) (n_ : Int) (r0 : (List (Int × Int)) → Option α) : Option α :=
  impl_records_3F_impl_bestOfFirst_1 k p_ q_ n_ fun v =>
  r0 v

/-- loop.example/g01297/impl.BestOfFirst -/
def impl_BestOfFirst {α : Type} (k : Nat) (p_ : Int) (q_ : Int) (n_ : Int) (r0 : Int → Option α) (r1 : (List (Int × Int)) → Int → Option α) : Option α :=
  impl_bestOk k p_ q_ n_ fun v =>
  bif (!v) then
    r0 2
  else
    impl_bestOfFirst k p_ q_ n_ fun v1 =>
    r1 v1 0

/-- loop.example/g01297/spec.BestOfFirst -/
def spec_BestOfFirst {α : Type} (k : Nat) (p_ : Int) (q_ : Int) (n_ : Int) (r0 : Int → Option α) (r1 : (List (Int × Int)) → Int → Option α) : Option α :=
  spec_l10Ratio k p_ q_ 1 fun v =>
  bif (!v) then
    r0 2
  else
    spec_l01In k n_ 1 100000 fun v1 =>
    bif (!v1) then
      r0 2
    else
      spec_l10Best k p_ q_ n_ false fun v2 =>
      r1 v2 0

/-- loop.example/g01297/spec.DrawNearestFraction -/
def spec_DrawNearestFraction {α : Type} (k : Nat) (code : List Int) (r0 : Int → Int → Int → Option α) : Option α :=
  spec_l10With k code 100000 fun v v1 v2 =>
  r0 v v1 v2

/-- loop.example/g01297/impl.NearestFraction -/
def impl_NearestFraction {α : Type} (k : Nat) (p_ : Int) (q_ : Int) (n_ : Int) (r0 : Int → Int → Int → Option α) : Option α :=
  impl_bestOk k p_ q_ n_ fun v =>
  bif (!v) then
    r0 0 0 2
  else
    impl_bestOfFirst k p_ q_ n_ fun v1 =>
    bif (decide (0 ≤ (w64 ((((List.length v1) : Nat) : Int) - 1))) && decide ((w64 ((((List.length v1) : Nat) : Int) - 1)) < (((List.length v1) : Nat) : Int))) then
      (v1[(w64 ((((List.length v1) : Nat) : Int) - 1)).toNat]?).bind fun e_ =>
      r0 e_.1 e_.2 0
    else
      none

/-- loop.example/g01297/spec.NearestFraction -/
def spec_NearestFraction {α : Type} (k : Nat) (p_ : Int) (q_ : Int) (n_ : Int) (r0 : Int → Int → Int → Option α) : Option α :=
  spec_l10Ratio k p_ q_ 1 fun v =>
  bif (!v) then
    r0 0 0 2
  else
    spec_l01In k n_ 1 100000 fun v1 =>
    bif (!v1) then
      r0 0 0 2
    else
      spec_l10Best k p_ q_ n_ false fun v2 =>
      bif (decide (0 ≤ (w64 ((((List.length v2) : Nat) : Int) - 1))) && decide ((w64 ((((List.length v2) : Nat) : Int) - 1)) < (((List.length v2) : Nat) : Int))) then
        (v2[(w64 ((((List.length v2) : Nat) : Int) - 1)).toNat]?).bind fun e_ =>
        r0 e_.1 e_.2 0
      else
        none

def spec_l01Expand_l2 {α : Type} : Nat → Int → Int → List Int → (Int → Int → List Int → Option α) → (List Int → Option α) → Option α
  | 0, _, _, _, _, _ => none
  | k + 1, p_1, q_1, out, b0, r0 =>
    bif (!decide (q_1 = 0)) then
      spec_l01Floor k p_1 q_1 fun v =>
      bif decide (((List.length out) + 1) ≤ big) then
        spec_l01Expand_l2 k q_1 (w64 (p_1 - (w64 (v * q_1)))) (out ++ [v]) b0 r0
      else
        none
    else
      b0 p_1 q_1 out

/-- loop.example/g01297/spec.l01Expand -/
def spec_l01Expand {α : Type} (k : Nat) (p_ : Int) (q_ : Int) (r0 : List Int → Option α) : Option α :=
  spec_l01Expand_l2 k p_ q_ []
    (fun _ _ out1 =>
      r0 out1)
    r0

def spec_l01Fold_l3 {α : Type} : Nat → Int → Int → Int → List Int → (Int → Int → Int → List Int → Option α) → (Int → Int → Bool → Option α) → Option α
  | 0, _, _, _, _, _, _ => none
  | k + 1, p_, q_, i, list1, b0, r0 =>
    bif decide (0 ≤ i) then
      bif (decide (0 ≤ i) && decide (i < (((List.length list1) : Nat) : Int))) then
        (list1[i.toNat]?).bind fun e_1 =>
        spec_l01Fits k (w64 ((w64 (e_1 * p_)) + q_)) fun v =>
        bif (!v) then
          r0 0 0 false
        else
          spec_l01Fits k p_ fun v1 =>
          bif (!v1) then
            r0 0 0 false
          else
            spec_l01Fold_l3 k (w64 ((w64 (e_1 * p_)) + q_)) p_ (w64 (i - 1)) list1 b0 r0
      else
        none
    else
      b0 p_ q_ i list1

/-- loop.example/g01297/spec.l01Fold -/
def spec_l01Fold {α : Type} (k : Nat) (list : List Int) (r0 : Int → Int → Bool → Option α) : Option α :=
  bif (decide (0 ≤ (w64 ((((List.length list) : Nat) : Int) - 1))) && decide ((w64 ((((List.length list) : Nat) : Int) - 1)) < (((List.length list) : Nat) : Int))) then
    (list[(w64 ((((List.length list) : Nat) : Int) - 1)).toNat]?).bind fun e_ =>
    spec_l01Fold_l3 k e_ 1 (w64 ((((List.length list) : Nat) : Int) - 2)) list
      (fun p_1 q_1 _ _ =>
        r0 p_1 q_1 true)
      r0
  else
    none

def spec_ConvergentsOf_l5 {α : Type} : Nat → Int → List Int → (List (Int × Int)) → (Int → List Int → (List (Int × Int)) → Option α) → (Int → Option α) → ((List (Int × Int)) → Int → Option α) → Option α
  | 0, _, _, _, _, _, _ => none
  | k + 1, n_, list, out, b0, r0, r1 =>
    bif decide (n_ ≤ (((List.length list) : Nat) : Int)) then
      bif (decide (0 ≤ n_) && decide (n_ ≤ (((List.length list) : Nat) : Int))) then
        spec_l01Fold k (List.take (n_.toNat - 0) (List.drop 0 list)) fun v3 v4 _ =>
        bif decide (((List.length out) + 1) ≤ big) then
          spec_ConvergentsOf_l5 k (w64 (n_ + 1)) list (out ++ [(v3, v4)]) b0 r0 r1
        else
          none
      else
        none
    else
      b0 n_ list out

/-- loop.example/g01297/spec.ConvergentsOf -/
def spec_ConvergentsOf {α : Type} (k : Nat) (p_ : Int) (q_ : Int) (r0 : Int → Option α) (r1 : (List (Int × Int)) → Int → Option α) : Option α :=
  spec_l01Fits k p_ fun v =>
  bif (!v) then
    r0 2
  else
    spec_l01In k q_ 1 1000000 fun v1 =>
    bif (!v1) then
      r0 2
    else
      spec_l01Expand k p_ q_ fun v2 =>
      spec_ConvergentsOf_l5 k 1 v2 []
        (fun _ _ out1 =>
          r1 out1 0)
        r0 r1

/-- loop.example/g01297/spec.DrawIsConvergent -/
def spec_DrawIsConvergent {α : Type} (k : Nat) (code : List Int) (r0 : Int → Int → Int → Int → Option α) : Option α :=
  spec_l01From k code fun v v1 =>
  spec_l10Draw k code v v1 fun v2 v3 v4 v5 =>
  spec_ConvergentsOf k v2 v3
    (fun v6 =>
      bif decide (v6 = 0) then
        spec_l01Next k code v4 v5 3 fun v7 v8 v9 =>
        bif decide (0 < v7) then
          spec_l01Next k code v8 v9 0 fun _ _ _ =>
          none
        else
          spec_l10Draw k code v8 v9 fun v13 v14 _ _ =>
          r0 v2 v3 v13 v14
      else
        spec_l10Draw k code v4 v5 fun v17 v18 _ _ =>
        r0 v2 v3 v17 v18)
    (fun v21 v22 =>
      bif decide (v22 = 0) then
        spec_l01Next k code v4 v5 3 fun v23 v24 v25 =>
        bif decide (0 < v23) then
          spec_l01Next k code v24 v25 (((List.length v21) : Nat) : Int) fun v26 _ _ =>
          bif (decide (0 ≤ v26) && decide (v26 < (((List.length v21) : Nat) : Int))) then
            (v21[v26.toNat]?).bind fun e_ =>
            r0 v2 v3 e_.1 e_.2
          else
            none
        else
          spec_l10Draw k code v24 v25 fun v29 v30 _ _ =>
          r0 v2 v3 v29 v30
      else
        spec_l10Draw k code v4 v5 fun v33 v34 _ _ =>
        r0 v2 v3 v33 v34)

def impl_expand_l2 {α : Type} : Nat → Int → Int → List Int → (Int → Int → List Int → Option α) → (List Int → Option α) → Option α
  | 0, _, _, _, _, _ => none
  | k + 1, p_1, q_1, out, b0, r0 =>
    bif (!decide (q_1 = 0)) then
      impl_floor k p_1 q_1 fun v =>
      bif decide (((List.length out) + 1) ≤ big) then
        impl_expand_l2 k q_1 (w64 (p_1 - (w64 (v * q_1)))) (out ++ [v]) b0 r0
      else
        none
    else
      b0 p_1 q_1 out

/-- loop.example/g01297/impl.expand -/
def impl_expand {α : Type} (k : Nat) (p_ : Int) (q_ : Int) (r0 : List Int → Option α) : Option α :=
  impl_expand_l2 k p_ q_ []
    (fun _ _ out1 =>
      r0 out1)
    r0

/-- (loop.example/g01297/impl.Point).plus -/
def impl_Point_plus {α : Type} (k : Nat) (a : Int) (a1 : Int) (b_ : Int) (b_1 : Int) (k_ : Int) (r0 : Int → Int → Option α) : Option α :=
  r0 (w64 (a + (w64 (k_ * b_)))) (w64 (a1 + (w64 (k_ * b_1))))

def impl_convergents_l3 {α : Type} : Nat → Int → Int → (List (Int × Int)) → Int → Int → Int → Int → List Int → (Int → Int → (List (Int × Int)) → Int → Int → Int → Int → List Int → Option α) → ((List (Int × Int)) → Option α) → Option α
  | 0, _, _, _, _, _, _, _, _, _, _ => none
  | k + 1, x, x1, out, now, now1, before, before1, x2, b0, r0 =>
    bif decide (x1 < x) then
      bif (decide (0 ≤ x1) && decide (x1 < (((List.length x2) : Nat) : Int))) then
        (x2[x1.toNat]?).bind fun e_ =>
        impl_Point_plus k before before1 now now1 e_ fun v1 v2 =>
        bif decide (((List.length out) + 1) ≤ big) then
          impl_convergents_l3 k x (w64 (x1 + 1)) (out ++ [(v1, v2)]) v1 v2 now now1 x2 b0 r0
        else
          none
      else
        none
    else
      b0 x x1 out now now1 before before1 x2

/-- loop.example/g01297/impl.convergents -/
def impl_convergents {α : Type} (k : Nat) (p_ : Int) (q_ : Int) (r0 : (List (Int × Int)) → Option α) : Option α :=
  impl_expand k p_ q_ fun v =>
  impl_convergents_l3 k (((List.length v) : Nat) : Int) 0 [] 1 0 0 1 v
    (fun _ _ out1 _ _ _ _ _ =>
      r0 out1)
    r0

def slices_Index_impl_Point_impl_Point_l2 {α : Type} : Nat → Int → Int → (List (Int × Int)) → Int → Int → (Int → Int → (List (Int × Int)) → Int → Int → Option α) → (Int → Option α) → Option α
  | 0, _, _, _, _, _, _, _ => none
  | k + 1, x, x1, s1, v2, v3, b0, r0 =>
    bif decide (x1 < x) then
      bif (decide (0 ≤ x1) && decide (x1 < (((List.length s1) : Nat) : Int))) then
        (s1[x1.toNat]?).bind fun e_ =>
        bif (decide (v2 = e_.1) && decide (v3 = e_.2)) then
          r0 x1
        else
          slices_Index_impl_Point_impl_Point_l2 k x (w64 (x1 + 1)) s1 v2 v3 b0 r0
      else
        none
    else
      b0 x x1 s1 v2 v3

/-- slices.Index[[]loop.example/g01297/impl.Point,loop.example/g01297/impl.Point] -/
def slices_Index_impl_Point_impl_Point {α : Type} (k : Nat) (s : List (Int × Int)) (v : Int) (v1 : Int) (r0 : Int → Option α) : Option α :=
  slices_Index_impl_Point_impl_Point_l2 k (((List.length s) : Nat) : Int) 0 s v v1
    (fun _ _ _ _ _ =>
      r0 (-1))
    r0

/-- slices.Contains[[]loop.example/g01297/impl.Point,loop.example/g01297/impl.Point] -/
def slices_Contains_impl_Point_impl_Point {α : Type} (k : Nat) (s : List (Int × Int)) (v : Int) (v1 : Int) (r0 : Bool → Option α) : Option α :=
  slices_Index_impl_Point_impl_Point k s v v1 fun v2 =>
  r0 (decide (0 ≤ v2))

/-- loop.example/g01297/impl.IsConvergent -/
def impl_IsConvergent {α : Type} (k : Nat) (p_ : Int) (q_ : Int) (r_ : Int) (s : Int) (r0 : Bool → Int → Option α) : Option α :=
  impl_ratioOk k p_ q_ fun v =>
  bif (!v) then
    r0 false 2
  else
    impl_ratioOk k r_ s fun v1 =>
    bif (!v1) then
      r0 false 2
    else
      impl_convergents k p_ q_ fun v2 =>
      slices_Contains_impl_Point_impl_Point k v2 r_ s fun v3 =>
      r0 v3 0

def spec_IsConvergent_l5 {α : Type} : Nat → Int → Int → Int → (List (Int × Int)) → (Int → Int → Int → (List (Int × Int)) → Option α) → (Bool → Int → Option α) → Option α
  | 0, _, _, _, _, _, _ => none
  | k + 1, r_1, s1, i, list, b0, r0 =>
    bif decide (i < (((List.length list) : Nat) : Int)) then
      bif (decide (0 ≤ i) && decide (i < (((List.length list) : Nat) : Int))) then
        (list[i.toNat]?).bind fun e_ =>
        bif (decide (e_.1 = r_1) && decide (e_.2 = s1)) then
          r0 true 0
        else
          spec_IsConvergent_l5 k r_1 s1 (w64 (i + 1)) list b0 r0
      else
        none
    else
      b0 r_1 s1 i list

/-- loop.example/g01297/spec.IsConvergent -/
def spec_IsConvergent {α : Type} (k : Nat) (p_ : Int) (q_ : Int) (r_ : Int) (s : Int) (r0 : Bool → Int → Option α) : Option α :=
  spec_l10Ratio k p_ q_ 1 fun v =>
  bif (!v) then
    r0 false 2
  else
    spec_l10Ratio k r_ s 1 fun v1 =>
    bif (!v1) then
      r0 false 2
    else
      spec_ConvergentsOf k p_ q_
        (fun _ =>
          spec_IsConvergent_l5 k r_ s 0 []
            (fun _ _ _ _ =>
              r0 false 0)
            r0)
        (fun v3 _ =>
          spec_IsConvergent_l5 k r_ s 0 v3
            (fun _ _ _ _ =>
              r0 false 0)
            r0)

/-- loop.example/g01297/spec.DrawCompareRatios -/
def spec_DrawCompareRatios {α : Type} (k : Nat) (code : List Int) (r0 : Int → Int → Int → Int → Option α) : Option α :=
  spec_l01From k code fun v v1 =>
  spec_l10Draw k code v v1 fun v2 v3 v4 v5 =>
  spec_l01Next k code v4 v5 3 fun v6 v7 v8 =>
  spec_l01Next k code v7 v8 3 fun v9 v10 v11 =>
  bif decide (v9 = 0) then
    r0 v2 v3 (w64 ((w64 (1 + v6)) * v2)) (w64 ((w64 (1 + v6)) * v3))
  else
    spec_l10Draw k code v10 v11 fun v12 v13 _ _ =>
    r0 v2 v3 v12 v13

/-- cmp.isNaN[int64] -/
def cmp_isNaN_int64 {α : Type} (k : Nat) (x : Int) (r0 : Bool → Option α) : Option α :=
  r0 (!decide (x = x))

/-- cmp.Compare[int64] -/
def cmp_Compare_int64 {α : Type} (k : Nat) (x : Int) (y : Int) (r0 : Int → Option α) : Option α :=
  cmp_isNaN_int64 k x fun v =>
  cmp_isNaN_int64 k y fun v1 =>
  bif v then
    bif v1 then
      r0 0
    else
      r0 (-1)
  else
  bif v1 then
    r0 1
  else
  bif decide (x < y) then
    r0 (-1)
  else
  bif decide (y < x) then
    r0 1
  else
    r0 0

/-- loop.example/g01297/impl.CompareRatios -/
def impl_CompareRatios {α : Type} (k : Nat) (p_ : Int) (q_ : Int) (r_ : Int) (s : Int) (r0 : Int → Int → Option α) : Option α :=
  impl_ratioOk k p_ q_ fun v =>
  bif (!v) then
    r0 0 2
  else
    impl_ratioOk k r_ s fun v1 =>
    bif (!v1) then
      r0 0 2
    else
      cmp_Compare_int64 k (w64 (p_ * s)) (w64 (r_ * q_)) fun v2 =>
      r0 v2 0

/-- loop.example/g01297/spec.CompareRatios -/
def spec_CompareRatios {α : Type} (k : Nat) (p_ : Int) (q_ : Int) (r_ : Int) (s : Int) (r0 : Int → Int → Option α) : Option α :=
  spec_l10Ratio k p_ q_ 1 fun v =>
  bif (!v) then
    r0 0 2
  else
    spec_l10Ratio k r_ s 1 fun v1 =>
    bif (!v1) then
      r0 0 2
    else
    bif decide ((w64 (p_ * s)) < (w64 (r_ * q_))) then
      r0 (-1) 0
    else
    bif decide ((w64 (r_ * q_)) < (w64 (p_ * s))) then
      r0 1 0
    else
      r0 0 0

/-- loop.example/g01297/laws.points9 -/
def laws_points9_0N {α : Type} (k : Nat) (b_ : List (Int × Int)) (r0 : Bool → Option α) : Option α :=
  bif (!decide (0 = (((List.length b_) : Nat) : Int))) then
    r0 false
  else
    r0 true

def laws_points9_1N_l4 {α : Type} : Nat → Int → (List (Int × Int)) → (Int → (List (Int × Int)) → Option α) → (Bool → Option α) → Option α
  | 0, _, _, _, _ => none
  | k + 1, i, a1, b0, r0 =>
    bif decide (i < (((List.length a1) : Nat) : Int)) then
      bif (decide (0 ≤ i) && decide (i < (((List.length a1) : Nat) : Int))) then
        (a1[i.toNat]?).bind fun _ =>
        none
      else
        none
    else
      b0 i a1

/-- loop.example/g01297/laws.points9 -/
def laws_points9_1N {α : Type} (k : Nat) (a : List (Int × Int)) (r0 : Bool → Option α) : Option α :=
  bif (!decide ((((List.length a) : Nat) : Int) = 0)) then
    r0 false
  else
    laws_points9_1N_l4 k 0 a
      (fun _ _ =>
        r0 true)
      r0

def laws_points9_l4 {α : Type} : Nat → Int → (List (Int × Int)) → (List (Int × Int)) → (Int → (List (Int × Int)) → (List (Int × Int)) → Option α) → (Bool → Option α) → Option α
  | 0, _, _, _, _, _ => none
  | k + 1, i, a1, b_1, b0, r0 =>
    bif decide (i < (((List.length a1) : Nat) : Int)) then
      bif (decide (0 ≤ i) && decide (i < (((List.length a1) : Nat) : Int))) then
        (a1[i.toNat]?).bind fun e_ =>
        bif (decide (0 ≤ i) && decide (i < (((List.length b_1) : Nat) : Int))) then
          (b_1[i.toNat]?).bind fun e_1 =>
          bif (!(decide (e_.1 = e_1.1) && decide (e_.2 = e_1.2))) then
            r0 false
          else
            laws_points9_l4 k (w64 (i + 1)) a1 b_1 b0 r0
        else
          none
      else
        none
    else
      b0 i a1 b_1

/-- loop.example/g01297/laws.points9 -/
def laws_points9 {α : Type} (k : Nat) (a : List (Int × Int)) (b_ : List (Int × Int)) (r0 : Bool → Option α) : Option α :=
  bif (!decide ((((List.length a) : Nat) : Int) = (((List.length b_) : Nat) : Int))) then
    r0 false
  else
    laws_points9_l4 k 0 a b_
      (fun _ _ _ =>
        r0 true)
      r0

def laws_FnBests_l45 {α : Type} : Nat → Int → Int → (List (Int × Int)) → (List (Int × Int)) → (Int → Int → (List (Int × Int)) → (List (Int × Int)) → Option α) → (Bool → Option α) → Option α
  | 0, _, _, _, _, _, _ => none
  | k + 1, at_1, i1, second1, all1, b2, r0 =>
    bif decide (at_1 < (((List.length all1) : Nat) : Int)) then
      bif (decide (0 ≤ at_1) && decide (at_1 < (((List.length all1) : Nat) : Int))) then
        (all1[at_1.toNat]?).bind fun e_ =>
        bif (decide (0 ≤ i1) && decide (i1 < (((List.length second1) : Nat) : Int))) then
          (second1[i1.toNat]?).bind fun e_1 =>
          bif (!(decide (e_.1 = e_1.1) && decide (e_.2 = e_1.2))) then
            laws_FnBests_l45 k (w64 (at_1 + 1)) i1 second1 all1 b2 r0
          else
            b2 at_1 i1 second1 all1
        else
          none
      else
        none
    else
      b2 at_1 i1 second1 all1

def laws_FnBests_l43 {α : Type} : Nat → Int → Int → (List (Int × Int)) → (List (Int × Int)) → (Int → Int → (List (Int × Int)) → (List (Int × Int)) → Option α) → (Bool → Option α) → Option α
  | 0, _, _, _, _, _, _ => none
  | k + 1, at_, i, second, all, b0, r0 =>
    bif decide (i < (((List.length second) : Nat) : Int)) then
      laws_FnBests_l45 k at_ i second all
        (fun at_2 i2 second2 all2 =>
          bif decide (at_2 = (((List.length all2) : Nat) : Int)) then
            r0 false
          else
            laws_FnBests_l43 k at_2 (w64 (i2 + 1)) second2 all2 b0 r0)
        r0
    else
      b0 at_ i second all

/-- loop.example/g01297/laws.FnBests -/
def laws_FnBests_F {α : Type} (F0 : Nat → List Int → (Bool → Option α) → Option α) (F1 : Nat → List Int → (Int → Int → Int → Option α) → Option α) (F2 : Nat → Int → Int → Int → (Int → Option α) → ((List (Int × Int)) → Int → Option α) → Option α) (F3 : Nat → Int → Int → Int → (Int → Option α) → ((List (Int × Int)) → Int → Option α) → Option α) (F4 : Nat → (Bool → Option α) → Option α) (F5 : Nat → List Int → (Int → Int → Int → Option α) → Option α) (F6 : Nat → Int → Int → Int → (Int → Option α) → ((List (Int × Int)) → Int → Option α) → Option α) (F7 : Nat → Int → Int → Int → (Int → Option α) → ((List (Int × Int)) → Int → Option α) → Option α) (F8 : Nat → List Int → (Int → Int → Int → Option α) → Option α) (F9 : Nat → Int → Int → Int → (Int → Int → Int → Option α) → Option α) (F10 : Nat → Int → Int → Int → (Int → Int → Int → Option α) → Option α) (F11 : Nat → List Int → (Int → Int → Int → Int → Option α) → Option α) (F12 : Nat → Int → Int → Int → Int → (Bool → Int → Option α) → Option α) (F13 : Nat → Int → Int → Int → Int → (Bool → Int → Option α) → Option α) (F14 : Nat → List Int → (Int → Int → Int → Int → Option α) → Option α) (F15 : Nat → Int → Int → Int → Int → (Int → Int → Option α) → Option α) (F16 : Nat → Int → Int → Int → Int → (Int → Int → Option α) → Option α) (F17 : Nat → (List (Int × Int)) → (Bool → Option α) → Option α) (F18 : Nat → (List (Int × Int)) → (Bool → Option α) → Option α) (F19 : Nat → (List (Int × Int)) → (List (Int × Int)) → (Bool → Option α) → Option α) (G45 : Nat → Int → Int → (List (Int × Int)) → (List (Int × Int)) → (Int → Int → (List (Int × Int)) → (List (Int × Int)) → Option α) → (Bool → Option α) → Option α) (G43 : Nat → Int → Int → (List (Int × Int)) → (List (Int × Int)) → (Int → Int → (List (Int × Int)) → (List (Int × Int)) → Option α) → (Bool → Option α) → Option α) (k : Nat) (code : List Int) (r0 : Bool → Option α) : Option α :=
  F0 k code fun v =>
  bif v then
    r0 true
  else
    F1 k code fun v1 v2 v3 =>
    F2 k v1 v2 v3
      (fun v4 =>
        F3 k v1 v2 v3
          (fun v5 =>
            bif (!decide (v4 = v5)) then
              r0 false
            else
              F4 k fun v6 =>
              bif (!v6) then
                r0 false
              else
                F5 k code fun v7 v8 v9 =>
                F6 k v7 v8 v9
                  (fun v10 =>
                    F7 k v7 v8 v9
                      (fun v11 =>
                        bif (!decide (v10 = v11)) then
                          r0 false
                        else
                          F4 k fun v12 =>
                          bif (!v12) then
                            r0 false
                          else
                            F8 k code fun v13 v14 v15 =>
                            F9 k v13 v14 v15 fun v16 v17 v18 =>
                            F10 k v13 v14 v15 fun v19 v20 v21 =>
                            bif (!decide (v18 = v21)) then
                              r0 false
                            else
                            bif (!(decide (v16 = v19) && decide (v17 = v20))) then
                              r0 false
                            else
                              F11 k code fun v22 v23 v24 v25 =>
                              F12 k v22 v23 v24 v25 fun v26 v27 =>
                              F13 k v22 v23 v24 v25 fun v28 v29 =>
                              bif (!decide (v27 = v29)) then
                                r0 false
                              else
                              bif (!(v26 == v28)) then
                                r0 false
                              else
                                F14 k code fun v30 v31 v32 v33 =>
                                F15 k v30 v31 v32 v33 fun v34 v35 =>
                                F16 k v30 v31 v32 v33 fun v36 v37 =>
                                bif (!decide (v35 = v37)) then
                                  r0 false
                                else
                                bif (!decide (v34 = v36)) then
                                  r0 false
                                else
                                bif decide (v35 = 0) then
                                  F15 k v32 v33 v30 v31 fun v38 v39 =>
                                  bif (!decide (v39 = 0)) then
                                    r0 false
                                  else
                                  bif (!decide (v38 = (w64 (0 - v34)))) then
                                    r0 false
                                  else
                                  bif decide (v10 = 0) then
                                    F9 k v7 v8 v9 fun _ _ v42 =>
                                    bif (!decide (v42 = 0)) then
                                      r0 false
                                    else
                                      r0 false
                                  else
                                  bif (!decide (v4 = 0)) then
                                    r0 true
                                  else
                                    F6 k v1 v2 v3
                                      (fun v43 =>
                                        bif (!decide (v43 = 0)) then
                                          r0 false
                                        else
                                          G43 k 0 0 [] []
                                            (fun _ _ _ _ =>
                                              r0 true)
                                            r0)
                                      (fun v44 v45 =>
                                        bif (!decide (v45 = 0)) then
                                          r0 false
                                        else
                                          G43 k 0 0 [] v44
                                            (fun _ _ _ _ =>
                                              r0 true)
                                            r0)
                                else
                                bif decide (v10 = 0) then
                                  F9 k v7 v8 v9 fun _ _ v48 =>
                                  bif (!decide (v48 = 0)) then
                                    r0 false
                                  else
                                    r0 false
                                else
                                bif (!decide (v4 = 0)) then
                                  r0 true
                                else
                                  F6 k v1 v2 v3
                                    (fun v49 =>
                                      bif (!decide (v49 = 0)) then
                                        r0 false
                                      else
                                        G43 k 0 0 [] []
                                          (fun _ _ _ _ =>
                                            r0 true)
                                          r0)
                                    (fun v50 v51 =>
                                      bif (!decide (v51 = 0)) then
                                        r0 false
                                      else
                                        G43 k 0 0 [] v50
                                          (fun _ _ _ _ =>
                                            r0 true)
                                          r0))
                      (fun v52 v53 =>
                        bif (!decide (v10 = v53)) then
                          r0 false
                        else
                          F17 k v52 fun v54 =>
                          bif (!v54) then
                            r0 false
                          else
                            F8 k code fun v55 v56 v57 =>
                            F9 k v55 v56 v57 fun v58 v59 v60 =>
                            F10 k v55 v56 v57 fun v61 v62 v63 =>
                            bif (!decide (v60 = v63)) then
                              r0 false
                            else
                            bif (!(decide (v58 = v61) && decide (v59 = v62))) then
                              r0 false
                            else
                              F11 k code fun v64 v65 v66 v67 =>
                              F12 k v64 v65 v66 v67 fun v68 v69 =>
                              F13 k v64 v65 v66 v67 fun v70 v71 =>
                              bif (!decide (v69 = v71)) then
                                r0 false
                              else
                              bif (!(v68 == v70)) then
                                r0 false
                              else
                                F14 k code fun v72 v73 v74 v75 =>
                                F15 k v72 v73 v74 v75 fun v76 v77 =>
                                F16 k v72 v73 v74 v75 fun v78 v79 =>
                                bif (!decide (v77 = v79)) then
                                  r0 false
                                else
                                bif (!decide (v76 = v78)) then
                                  r0 false
                                else
                                bif decide (v77 = 0) then
                                  F15 k v74 v75 v72 v73 fun v80 v81 =>
                                  bif (!decide (v81 = 0)) then
                                    r0 false
                                  else
                                  bif (!decide (v80 = (w64 (0 - v76)))) then
                                    r0 false
                                  else
                                  bif decide (v10 = 0) then
                                    F9 k v7 v8 v9 fun _ _ v84 =>
                                    bif (!decide (v84 = 0)) then
                                      r0 false
                                    else
                                      r0 false
                                  else
                                  bif (!decide (v4 = 0)) then
                                    r0 true
                                  else
                                    F6 k v1 v2 v3
                                      (fun v85 =>
                                        bif (!decide (v85 = 0)) then
                                          r0 false
                                        else
                                          G43 k 0 0 [] []
                                            (fun _ _ _ _ =>
                                              r0 true)
                                            r0)
                                      (fun v86 v87 =>
                                        bif (!decide (v87 = 0)) then
                                          r0 false
                                        else
                                          G43 k 0 0 [] v86
                                            (fun _ _ _ _ =>
                                              r0 true)
                                            r0)
                                else
                                bif decide (v10 = 0) then
                                  F9 k v7 v8 v9 fun _ _ v90 =>
                                  bif (!decide (v90 = 0)) then
                                    r0 false
                                  else
                                    r0 false
                                else
                                bif (!decide (v4 = 0)) then
                                  r0 true
                                else
                                  F6 k v1 v2 v3
                                    (fun v91 =>
                                      bif (!decide (v91 = 0)) then
                                        r0 false
                                      else
                                        G43 k 0 0 [] []
                                          (fun _ _ _ _ =>
                                            r0 true)
                                          r0)
                                    (fun v92 v93 =>
                                      bif (!decide (v93 = 0)) then
                                        r0 false
                                      else
                                        G43 k 0 0 [] v92
                                          (fun _ _ _ _ =>
                                            r0 true)
                                          r0)))
                  (fun v94 v95 =>
                    F7 k v7 v8 v9
                      (fun v96 =>
                        bif (!decide (v95 = v96)) then
                          r0 false
                        else
                          F18 k v94 fun v97 =>
                          bif (!v97) then
                            r0 false
                          else
                            F8 k code fun v98 v99 v100 =>
                            F9 k v98 v99 v100 fun v101 v102 v103 =>
                            F10 k v98 v99 v100 fun v104 v105 v106 =>
                            bif (!decide (v103 = v106)) then
                              r0 false
                            else
                            bif (!(decide (v101 = v104) && decide (v102 = v105))) then
                              r0 false
                            else
                              F11 k code fun v107 v108 v109 v110 =>
                              F12 k v107 v108 v109 v110 fun v111 v112 =>
                              F13 k v107 v108 v109 v110 fun v113 v114 =>
                              bif (!decide (v112 = v114)) then
                                r0 false
                              else
                              bif (!(v111 == v113)) then
                                r0 false
                              else
                                F14 k code fun v115 v116 v117 v118 =>
                                F15 k v115 v116 v117 v118 fun v119 v120 =>
                                F16 k v115 v116 v117 v118 fun v121 v122 =>
                                bif (!decide (v120 = v122)) then
                                  r0 false
                                else
                                bif (!decide (v119 = v121)) then
                                  r0 false
                                else
                                bif decide (v120 = 0) then
                                  F15 k v117 v118 v115 v116 fun v123 v124 =>
                                  bif (!decide (v124 = 0)) then
                                    r0 false
                                  else
                                  bif (!decide (v123 = (w64 (0 - v119)))) then
                                    r0 false
                                  else
                                  bif decide (v95 = 0) then
                                    F9 k v7 v8 v9 fun v125 v126 v127 =>
                                    bif (!decide (v127 = 0)) then
                                      r0 false
                                    else
                                    bif decide ((((List.length v94) : Nat) : Int) = 0) then
                                      r0 false
                                    else
                                    bif (decide (0 ≤ (w64 ((((List.length v94) : Nat) : Int) - 1))) && decide ((w64 ((((List.length v94) : Nat) : Int) - 1)) < (((List.length v94) : Nat) : Int))) then
                                      (v94[(w64 ((((List.length v94) : Nat) : Int) - 1)).toNat]?).bind fun e_2 =>
                                      bif (!(decide (v125 = e_2.1) && decide (v126 = e_2.2))) then
                                        r0 false
                                      else
                                      bif (!decide (v4 = 0)) then
                                        r0 true
                                      else
                                        F6 k v1 v2 v3
                                          (fun v128 =>
                                            bif (!decide (v128 = 0)) then
                                              r0 false
                                            else
                                              G43 k 0 0 [] []
                                                (fun _ _ _ _ =>
                                                  r0 true)
                                                r0)
                                          (fun v129 v130 =>
                                            bif (!decide (v130 = 0)) then
                                              r0 false
                                            else
                                              G43 k 0 0 [] v129
                                                (fun _ _ _ _ =>
                                                  r0 true)
                                                r0)
                                    else
                                      none
                                  else
                                  bif (!decide (v4 = 0)) then
                                    r0 true
                                  else
                                    F6 k v1 v2 v3
                                      (fun v131 =>
                                        bif (!decide (v131 = 0)) then
                                          r0 false
                                        else
                                          G43 k 0 0 [] []
                                            (fun _ _ _ _ =>
                                              r0 true)
                                            r0)
                                      (fun v132 v133 =>
                                        bif (!decide (v133 = 0)) then
                                          r0 false
                                        else
                                          G43 k 0 0 [] v132
                                            (fun _ _ _ _ =>
                                              r0 true)
                                            r0)
                                else
                                bif decide (v95 = 0) then
                                  F9 k v7 v8 v9 fun v134 v135 v136 =>
                                  bif (!decide (v136 = 0)) then
                                    r0 false
                                  else
                                  bif decide ((((List.length v94) : Nat) : Int) = 0) then
                                    r0 false
                                  else
                                  bif (decide (0 ≤ (w64 ((((List.length v94) : Nat) : Int) - 1))) && decide ((w64 ((((List.length v94) : Nat) : Int) - 1)) < (((List.length v94) : Nat) : Int))) then
                                    (v94[(w64 ((((List.length v94) : Nat) : Int) - 1)).toNat]?).bind fun e_3 =>
                                    bif (!(decide (v134 = e_3.1) && decide (v135 = e_3.2))) then
                                      r0 false
                                    else
                                    bif (!decide (v4 = 0)) then
                                      r0 true
                                    else
                                      F6 k v1 v2 v3
                                        (fun v137 =>
                                          bif (!decide (v137 = 0)) then
                                            r0 false
                                          else
                                            G43 k 0 0 [] []
                                              (fun _ _ _ _ =>
                                                r0 true)
                                              r0)
                                        (fun v138 v139 =>
                                          bif (!decide (v139 = 0)) then
                                            r0 false
                                          else
                                            G43 k 0 0 [] v138
                                              (fun _ _ _ _ =>
                                                r0 true)
                                              r0)
                                  else
                                    none
                                else
                                bif (!decide (v4 = 0)) then
                                  r0 true
                                else
                                  F6 k v1 v2 v3
                                    (fun v140 =>
                                      bif (!decide (v140 = 0)) then
                                        r0 false
                                      else
                                        G43 k 0 0 [] []
                                          (fun _ _ _ _ =>
                                            r0 true)
                                          r0)
                                    (fun v141 v142 =>
                                      bif (!decide (v142 = 0)) then
                                        r0 false
                                      else
                                        G43 k 0 0 [] v141
                                          (fun _ _ _ _ =>
                                            r0 true)
                                          r0))
                      (fun v143 v144 =>
                        bif (!decide (v95 = v144)) then
                          r0 false
                        else
                          F19 k v94 v143 fun v145 =>
                          bif (!v145) then
                            r0 false
                          else
                            F8 k code fun v146 v147 v148 =>
                            F9 k v146 v147 v148 fun v149 v150 v151 =>
                            F10 k v146 v147 v148 fun v152 v153 v154 =>
                            bif (!decide (v151 = v154)) then
                              r0 false
                            else
                            bif (!(decide (v149 = v152) && decide (v150 = v153))) then
                              r0 false
                            else
                              F11 k code fun v155 v156 v157 v158 =>
                              F12 k v155 v156 v157 v158 fun v159 v160 =>
                              F13 k v155 v156 v157 v158 fun v161 v162 =>
                              bif (!decide (v160 = v162)) then
                                r0 false
                              else
                              bif (!(v159 == v161)) then
                                r0 false
                              else
                                F14 k code fun v163 v164 v165 v166 =>
                                F15 k v163 v164 v165 v166 fun v167 v168 =>
                                F16 k v163 v164 v165 v166 fun v169 v170 =>
                                bif (!decide (v168 = v170)) then
                                  r0 false
                                else
                                bif (!decide (v167 = v169)) then
                                  r0 false
                                else
                                bif decide (v168 = 0) then
                                  F15 k v165 v166 v163 v164 fun v171 v172 =>
                                  bif (!decide (v172 = 0)) then
                                    r0 false
                                  else
                                  bif (!decide (v171 = (w64 (0 - v167)))) then
                                    r0 false
                                  else
                                  bif decide (v95 = 0) then
                                    F9 k v7 v8 v9 fun v173 v174 v175 =>
                                    bif (!decide (v175 = 0)) then
                                      r0 false
                                    else
                                    bif decide ((((List.length v94) : Nat) : Int) = 0) then
                                      r0 false
                                    else
                                    bif (decide (0 ≤ (w64 ((((List.length v94) : Nat) : Int) - 1))) && decide ((w64 ((((List.length v94) : Nat) : Int) - 1)) < (((List.length v94) : Nat) : Int))) then
                                      (v94[(w64 ((((List.length v94) : Nat) : Int) - 1)).toNat]?).bind fun e_4 =>
                                      bif (!(decide (v173 = e_4.1) && decide (v174 = e_4.2))) then
                                        r0 false
                                      else
                                      bif (!decide (v4 = 0)) then
                                        r0 true
                                      else
                                        F6 k v1 v2 v3
                                          (fun v176 =>
                                            bif (!decide (v176 = 0)) then
                                              r0 false
                                            else
                                              G43 k 0 0 [] []
                                                (fun _ _ _ _ =>
                                                  r0 true)
                                                r0)
                                          (fun v177 v178 =>
                                            bif (!decide (v178 = 0)) then
                                              r0 false
                                            else
                                              G43 k 0 0 [] v177
                                                (fun _ _ _ _ =>
                                                  r0 true)
                                                r0)
                                    else
                                      none
                                  else
                                  bif (!decide (v4 = 0)) then
                                    r0 true
                                  else
                                    F6 k v1 v2 v3
                                      (fun v179 =>
                                        bif (!decide (v179 = 0)) then
                                          r0 false
                                        else
                                          G43 k 0 0 [] []
                                            (fun _ _ _ _ =>
                                              r0 true)
                                            r0)
                                      (fun v180 v181 =>
                                        bif (!decide (v181 = 0)) then
                                          r0 false
                                        else
                                          G43 k 0 0 [] v180
                                            (fun _ _ _ _ =>
                                              r0 true)
                                            r0)
                                else
                                bif decide (v95 = 0) then
                                  F9 k v7 v8 v9 fun v182 v183 v184 =>
                                  bif (!decide (v184 = 0)) then
                                    r0 false
                                  else
                                  bif decide ((((List.length v94) : Nat) : Int) = 0) then
                                    r0 false
                                  else
                                  bif (decide (0 ≤ (w64 ((((List.length v94) : Nat) : Int) - 1))) && decide ((w64 ((((List.length v94) : Nat) : Int) - 1)) < (((List.length v94) : Nat) : Int))) then
                                    (v94[(w64 ((((List.length v94) : Nat) : Int) - 1)).toNat]?).bind fun e_5 =>
                                    bif (!(decide (v182 = e_5.1) && decide (v183 = e_5.2))) then
                                      r0 false
                                    else
                                    bif (!decide (v4 = 0)) then
                                      r0 true
                                    else
                                      F6 k v1 v2 v3
                                        (fun v185 =>
                                          bif (!decide (v185 = 0)) then
                                            r0 false
                                          else
                                            G43 k 0 0 [] []
                                              (fun _ _ _ _ =>
                                                r0 true)
                                              r0)
                                        (fun v186 v187 =>
                                          bif (!decide (v187 = 0)) then
                                            r0 false
                                          else
                                            G43 k 0 0 [] v186
                                              (fun _ _ _ _ =>
                                                r0 true)
                                              r0)
                                  else
                                    none
                                else
                                bif (!decide (v4 = 0)) then
                                  r0 true
                                else
                                  F6 k v1 v2 v3
                                    (fun v188 =>
                                      bif (!decide (v188 = 0)) then
                                        r0 false
                                      else
                                        G43 k 0 0 [] []
                                          (fun _ _ _ _ =>
                                            r0 true)
                                          r0)
                                    (fun v189 v190 =>
                                      bif (!decide (v190 = 0)) then
                                        r0 false
                                      else
                                        G43 k 0 0 [] v189
                                          (fun _ _ _ _ =>
                                            r0 true)
                                          r0))))
          (fun v191 v192 =>
            bif (!decide (v4 = v192)) then
              r0 false
            else
              F17 k v191 fun v193 =>
              bif (!v193) then
                r0 false
              else
                F5 k code fun v194 v195 v196 =>
                F6 k v194 v195 v196
                  (fun v197 =>
                    F7 k v194 v195 v196
                      (fun v198 =>
                        bif (!decide (v197 = v198)) then
                          r0 false
                        else
                          F4 k fun v199 =>
                          bif (!v199) then
                            r0 false
                          else
                            F8 k code fun v200 v201 v202 =>
                            F9 k v200 v201 v202 fun v203 v204 v205 =>
                            F10 k v200 v201 v202 fun v206 v207 v208 =>
                            bif (!decide (v205 = v208)) then
                              r0 false
                            else
                            bif (!(decide (v203 = v206) && decide (v204 = v207))) then
                              r0 false
                            else
                              F11 k code fun v209 v210 v211 v212 =>
                              F12 k v209 v210 v211 v212 fun v213 v214 =>
                              F13 k v209 v210 v211 v212 fun v215 v216 =>
                              bif (!decide (v214 = v216)) then
                                r0 false
                              else
                              bif (!(v213 == v215)) then
                                r0 false
                              else
                                F14 k code fun v217 v218 v219 v220 =>
                                F15 k v217 v218 v219 v220 fun v221 v222 =>
                                F16 k v217 v218 v219 v220 fun v223 v224 =>
                                bif (!decide (v222 = v224)) then
                                  r0 false
                                else
                                bif (!decide (v221 = v223)) then
                                  r0 false
                                else
                                bif decide (v222 = 0) then
                                  F15 k v219 v220 v217 v218 fun v225 v226 =>
                                  bif (!decide (v226 = 0)) then
                                    r0 false
                                  else
                                  bif (!decide (v225 = (w64 (0 - v221)))) then
                                    r0 false
                                  else
                                  bif decide (v197 = 0) then
                                    F9 k v194 v195 v196 fun _ _ v229 =>
                                    bif (!decide (v229 = 0)) then
                                      r0 false
                                    else
                                      r0 false
                                  else
                                  bif (!decide (v4 = 0)) then
                                    r0 true
                                  else
                                    F6 k v1 v2 v3
                                      (fun v230 =>
                                        bif (!decide (v230 = 0)) then
                                          r0 false
                                        else
                                          G43 k 0 0 [] []
                                            (fun _ _ _ _ =>
                                              r0 true)
                                            r0)
                                      (fun v231 v232 =>
                                        bif (!decide (v232 = 0)) then
                                          r0 false
                                        else
                                          G43 k 0 0 [] v231
                                            (fun _ _ _ _ =>
                                              r0 true)
                                            r0)
                                else
                                bif decide (v197 = 0) then
                                  F9 k v194 v195 v196 fun _ _ v235 =>
                                  bif (!decide (v235 = 0)) then
                                    r0 false
                                  else
                                    r0 false
                                else
                                bif (!decide (v4 = 0)) then
                                  r0 true
                                else
                                  F6 k v1 v2 v3
                                    (fun v236 =>
                                      bif (!decide (v236 = 0)) then
                                        r0 false
                                      else
                                        G43 k 0 0 [] []
                                          (fun _ _ _ _ =>
                                            r0 true)
                                          r0)
                                    (fun v237 v238 =>
                                      bif (!decide (v238 = 0)) then
                                        r0 false
                                      else
                                        G43 k 0 0 [] v237
                                          (fun _ _ _ _ =>
                                            r0 true)
                                          r0))
                      (fun v239 v240 =>
                        bif (!decide (v197 = v240)) then
                          r0 false
                        else
                          F17 k v239 fun v241 =>
                          bif (!v241) then
                            r0 false
                          else
                            F8 k code fun v242 v243 v244 =>
                            F9 k v242 v243 v244 fun v245 v246 v247 =>
                            F10 k v242 v243 v244 fun v248 v249 v250 =>
                            bif (!decide (v247 = v250)) then
                              r0 false
                            else
                            bif (!(decide (v245 = v248) && decide (v246 = v249))) then
                              r0 false
                            else
                              F11 k code fun v251 v252 v253 v254 =>
                              F12 k v251 v252 v253 v254 fun v255 v256 =>
                              F13 k v251 v252 v253 v254 fun v257 v258 =>
                              bif (!decide (v256 = v258)) then
                                r0 false
                              else
                              bif (!(v255 == v257)) then
                                r0 false
                              else
                                F14 k code fun v259 v260 v261 v262 =>
                                F15 k v259 v260 v261 v262 fun v263 v264 =>
                                F16 k v259 v260 v261 v262 fun v265 v266 =>
                                bif (!decide (v264 = v266)) then
                                  r0 false
                                else
                                bif (!decide (v263 = v265)) then
                                  r0 false
                                else
                                bif decide (v264 = 0) then
                                  F15 k v261 v262 v259 v260 fun v267 v268 =>
                                  bif (!decide (v268 = 0)) then
                                    r0 false
                                  else
                                  bif (!decide (v267 = (w64 (0 - v263)))) then
                                    r0 false
                                  else
                                  bif decide (v197 = 0) then
                                    F9 k v194 v195 v196 fun _ _ v271 =>
                                    bif (!decide (v271 = 0)) then
                                      r0 false
                                    else
                                      r0 false
                                  else
                                  bif (!decide (v4 = 0)) then
                                    r0 true
                                  else
                                    F6 k v1 v2 v3
                                      (fun v272 =>
                                        bif (!decide (v272 = 0)) then
                                          r0 false
                                        else
                                          G43 k 0 0 [] []
                                            (fun _ _ _ _ =>
                                              r0 true)
                                            r0)
                                      (fun v273 v274 =>
                                        bif (!decide (v274 = 0)) then
                                          r0 false
                                        else
                                          G43 k 0 0 [] v273
                                            (fun _ _ _ _ =>
                                              r0 true)
                                            r0)
                                else
                                bif decide (v197 = 0) then
                                  F9 k v194 v195 v196 fun _ _ v277 =>
                                  bif (!decide (v277 = 0)) then
                                    r0 false
                                  else
                                    r0 false
                                else
                                bif (!decide (v4 = 0)) then
                                  r0 true
                                else
                                  F6 k v1 v2 v3
                                    (fun v278 =>
                                      bif (!decide (v278 = 0)) then
                                        r0 false
                                      else
                                        G43 k 0 0 [] []
                                          (fun _ _ _ _ =>
                                            r0 true)
                                          r0)
                                    (fun v279 v280 =>
                                      bif (!decide (v280 = 0)) then
                                        r0 false
                                      else
                                        G43 k 0 0 [] v279
                                          (fun _ _ _ _ =>
                                            r0 true)
                                          r0)))
                  (fun v281 v282 =>
                    F7 k v194 v195 v196
                      (fun v283 =>
                        bif (!decide (v282 = v283)) then
                          r0 false
                        else
                          F18 k v281 fun v284 =>
                          bif (!v284) then
                            r0 false
                          else
                            F8 k code fun v285 v286 v287 =>
                            F9 k v285 v286 v287 fun v288 v289 v290 =>
                            F10 k v285 v286 v287 fun v291 v292 v293 =>
                            bif (!decide (v290 = v293)) then
                              r0 false
                            else
                            bif (!(decide (v288 = v291) && decide (v289 = v292))) then
                              r0 false
                            else
                              F11 k code fun v294 v295 v296 v297 =>
                              F12 k v294 v295 v296 v297 fun v298 v299 =>
                              F13 k v294 v295 v296 v297 fun v300 v301 =>
                              bif (!decide (v299 = v301)) then
                                r0 false
                              else
                              bif (!(v298 == v300)) then
                                r0 false
                              else
                                F14 k code fun v302 v303 v304 v305 =>
                                F15 k v302 v303 v304 v305 fun v306 v307 =>
                                F16 k v302 v303 v304 v305 fun v308 v309 =>
                                bif (!decide (v307 = v309)) then
                                  r0 false
                                else
                                bif (!decide (v306 = v308)) then
                                  r0 false
                                else
                                bif decide (v307 = 0) then
                                  F15 k v304 v305 v302 v303 fun v310 v311 =>
                                  bif (!decide (v311 = 0)) then
                                    r0 false
                                  else
                                  bif (!decide (v310 = (w64 (0 - v306)))) then
                                    r0 false
                                  else
                                  bif decide (v282 = 0) then
                                    F9 k v194 v195 v196 fun v312 v313 v314 =>
                                    bif (!decide (v314 = 0)) then
                                      r0 false
                                    else
                                    bif decide ((((List.length v281) : Nat) : Int) = 0) then
                                      r0 false
                                    else
                                    bif (decide (0 ≤ (w64 ((((List.length v281) : Nat) : Int) - 1))) && decide ((w64 ((((List.length v281) : Nat) : Int) - 1)) < (((List.length v281) : Nat) : Int))) then
                                      (v281[(w64 ((((List.length v281) : Nat) : Int) - 1)).toNat]?).bind fun e_6 =>
                                      bif (!(decide (v312 = e_6.1) && decide (v313 = e_6.2))) then
                                        r0 false
                                      else
                                      bif (!decide (v4 = 0)) then
                                        r0 true
                                      else
                                        F6 k v1 v2 v3
                                          (fun v315 =>
                                            bif (!decide (v315 = 0)) then
                                              r0 false
                                            else
                                              G43 k 0 0 [] []
                                                (fun _ _ _ _ =>
                                                  r0 true)
                                                r0)
                                          (fun v316 v317 =>
                                            bif (!decide (v317 = 0)) then
                                              r0 false
                                            else
                                              G43 k 0 0 [] v316
                                                (fun _ _ _ _ =>
                                                  r0 true)
                                                r0)
                                    else
                                      none
                                  else
                                  bif (!decide (v4 = 0)) then
                                    r0 true
                                  else
                                    F6 k v1 v2 v3
                                      (fun v318 =>
                                        bif (!decide (v318 = 0)) then
                                          r0 false
                                        else
                                          G43 k 0 0 [] []
                                            (fun _ _ _ _ =>
                                              r0 true)
                                            r0)
                                      (fun v319 v320 =>
                                        bif (!decide (v320 = 0)) then
                                          r0 false
                                        else
                                          G43 k 0 0 [] v319
                                            (fun _ _ _ _ =>
                                              r0 true)
                                            r0)
                                else
                                bif decide (v282 = 0) then
                                  F9 k v194 v195 v196 fun v321 v322 v323 =>
                                  bif (!decide (v323 = 0)) then
                                    r0 false
                                  else
                                  bif decide ((((List.length v281) : Nat) : Int) = 0) then
                                    r0 false
                                  else
                                  bif (decide (0 ≤ (w64 ((((List.length v281) : Nat) : Int) - 1))) && decide ((w64 ((((List.length v281) : Nat) : Int) - 1)) < (((List.length v281) : Nat) : Int))) then
                                    (v281[(w64 ((((List.length v281) : Nat) : Int) - 1)).toNat]?).bind fun e_7 =>
                                    bif (!(decide (v321 = e_7.1) && decide (v322 = e_7.2))) then
                                      r0 false
                                    else
                                    bif (!decide (v4 = 0)) then
                                      r0 true
                                    else
                                      F6 k v1 v2 v3
                                        (fun v324 =>
                                          bif (!decide (v324 = 0)) then
                                            r0 false
                                          else
                                            G43 k 0 0 [] []
                                              (fun _ _ _ _ =>
                                                r0 true)
                                              r0)
                                        (fun v325 v326 =>
                                          bif (!decide (v326 = 0)) then
                                            r0 false
                                          else
                                            G43 k 0 0 [] v325
                                              (fun _ _ _ _ =>
                                                r0 true)
                                              r0)
                                  else
                                    none
                                else
                                bif (!decide (v4 = 0)) then
                                  r0 true
                                else
                                  F6 k v1 v2 v3
                                    (fun v327 =>
                                      bif (!decide (v327 = 0)) then
                                        r0 false
                                      else
                                        G43 k 0 0 [] []
                                          (fun _ _ _ _ =>
                                            r0 true)
                                          r0)
                                    (fun v328 v329 =>
                                      bif (!decide (v329 = 0)) then
                                        r0 false
                                      else
                                        G43 k 0 0 [] v328
                                          (fun _ _ _ _ =>
                                            r0 true)
                                          r0))
                      (fun v330 v331 =>
                        bif (!decide (v282 = v331)) then
                          r0 false
                        else
                          F19 k v281 v330 fun v332 =>
                          bif (!v332) then
                            r0 false
                          else
                            F8 k code fun v333 v334 v335 =>
                            F9 k v333 v334 v335 fun v336 v337 v338 =>
                            F10 k v333 v334 v335 fun v339 v340 v341 =>
                            bif (!decide (v338 = v341)) then
                              r0 false
                            else
                            bif (!(decide (v336 = v339) && decide (v337 = v340))) then
                              r0 false
                            else
                              F11 k code fun v342 v343 v344 v345 =>
                              F12 k v342 v343 v344 v345 fun v346 v347 =>
                              F13 k v342 v343 v344 v345 fun v348 v349 =>
                              bif (!decide (v347 = v349)) then
                                r0 false
                              else
                              bif (!(v346 == v348)) then
                                r0 false
                              else
                                F14 k code fun v350 v351 v352 v353 =>
                                F15 k v350 v351 v352 v353 fun v354 v355 =>
                                F16 k v350 v351 v352 v353 fun v356 v357 =>
                                bif (!decide (v355 = v357)) then
                                  r0 false
                                else
                                bif (!decide (v354 = v356)) then
                                  r0 false
                                else
                                bif decide (v355 = 0) then
                                  F15 k v352 v353 v350 v351 fun v358 v359 =>
                                  bif (!decide (v359 = 0)) then
                                    r0 false
                                  else
                                  bif (!decide (v358 = (w64 (0 - v354)))) then
                                    r0 false
                                  else
                                  bif decide (v282 = 0) then
                                    F9 k v194 v195 v196 fun v360 v361 v362 =>
                                    bif (!decide (v362 = 0)) then
                                      r0 false
                                    else
                                    bif decide ((((List.length v281) : Nat) : Int) = 0) then
                                      r0 false
                                    else
                                    bif (decide (0 ≤ (w64 ((((List.length v281) : Nat) : Int) - 1))) && decide ((w64 ((((List.length v281) : Nat) : Int) - 1)) < (((List.length v281) : Nat) : Int))) then
                                      (v281[(w64 ((((List.length v281) : Nat) : Int) - 1)).toNat]?).bind fun e_8 =>
                                      bif (!(decide (v360 = e_8.1) && decide (v361 = e_8.2))) then
                                        r0 false
                                      else
                                      bif (!decide (v4 = 0)) then
                                        r0 true
                                      else
                                        F6 k v1 v2 v3
                                          (fun v363 =>
                                            bif (!decide (v363 = 0)) then
                                              r0 false
                                            else
                                              G43 k 0 0 [] []
                                                (fun _ _ _ _ =>
                                                  r0 true)
                                                r0)
                                          (fun v364 v365 =>
                                            bif (!decide (v365 = 0)) then
                                              r0 false
                                            else
                                              G43 k 0 0 [] v364
                                                (fun _ _ _ _ =>
                                                  r0 true)
                                                r0)
                                    else
                                      none
                                  else
                                  bif (!decide (v4 = 0)) then
                                    r0 true
                                  else
                                    F6 k v1 v2 v3
                                      (fun v366 =>
                                        bif (!decide (v366 = 0)) then
                                          r0 false
                                        else
                                          G43 k 0 0 [] []
                                            (fun _ _ _ _ =>
                                              r0 true)
                                            r0)
                                      (fun v367 v368 =>
                                        bif (!decide (v368 = 0)) then
                                          r0 false
                                        else
                                          G43 k 0 0 [] v367
                                            (fun _ _ _ _ =>
                                              r0 true)
                                            r0)
                                else
                                bif decide (v282 = 0) then
                                  F9 k v194 v195 v196 fun v369 v370 v371 =>
                                  bif (!decide (v371 = 0)) then
                                    r0 false
                                  else
                                  bif decide ((((List.length v281) : Nat) : Int) = 0) then
                                    r0 false
                                  else
                                  bif (decide (0 ≤ (w64 ((((List.length v281) : Nat) : Int) - 1))) && decide ((w64 ((((List.length v281) : Nat) : Int) - 1)) < (((List.length v281) : Nat) : Int))) then
                                    (v281[(w64 ((((List.length v281) : Nat) : Int) - 1)).toNat]?).bind fun e_9 =>
                                    bif (!(decide (v369 = e_9.1) && decide (v370 = e_9.2))) then
                                      r0 false
                                    else
                                    bif (!decide (v4 = 0)) then
                                      r0 true
                                    else
                                      F6 k v1 v2 v3
                                        (fun v372 =>
                                          bif (!decide (v372 = 0)) then
                                            r0 false
                                          else
                                            G43 k 0 0 [] []
                                              (fun _ _ _ _ =>
                                                r0 true)
                                              r0)
                                        (fun v373 v374 =>
                                          bif (!decide (v374 = 0)) then
                                            r0 false
                                          else
                                            G43 k 0 0 [] v373
                                              (fun _ _ _ _ =>
                                                r0 true)
                                              r0)
                                  else
                                    none
                                else
                                bif (!decide (v4 = 0)) then
                                  r0 true
                                else
                                  F6 k v1 v2 v3
                                    (fun v375 =>
                                      bif (!decide (v375 = 0)) then
                                        r0 false
                                      else
                                        G43 k 0 0 [] []
                                          (fun _ _ _ _ =>
                                            r0 true)
                                          r0)
                                    (fun v376 v377 =>
                                      bif (!decide (v377 = 0)) then
                                        r0 false
                                      else
                                        G43 k 0 0 [] v376
                                          (fun _ _ _ _ =>
                                            r0 true)
                                          r0)))))
      (fun v378 v379 =>
        F3 k v1 v2 v3
          (fun v380 =>
            bif (!decide (v379 = v380)) then
              r0 false
            else
              F18 k v378 fun v381 =>
              bif (!v381) then
                r0 false
              else
                F5 k code fun v382 v383 v384 =>
                F6 k v382 v383 v384
                  (fun v385 =>
                    F7 k v382 v383 v384
                      (fun v386 =>
                        bif (!decide (v385 = v386)) then
                          r0 false
                        else
                          F4 k fun v387 =>
                          bif (!v387) then
                            r0 false
                          else
                            F8 k code fun v388 v389 v390 =>
                            F9 k v388 v389 v390 fun v391 v392 v393 =>
                            F10 k v388 v389 v390 fun v394 v395 v396 =>
                            bif (!decide (v393 = v396)) then
                              r0 false
                            else
                            bif (!(decide (v391 = v394) && decide (v392 = v395))) then
                              r0 false
                            else
                              F11 k code fun v397 v398 v399 v400 =>
                              F12 k v397 v398 v399 v400 fun v401 v402 =>
                              F13 k v397 v398 v399 v400 fun v403 v404 =>
                              bif (!decide (v402 = v404)) then
                                r0 false
                              else
                              bif (!(v401 == v403)) then
                                r0 false
                              else
                                F14 k code fun v405 v406 v407 v408 =>
                                F15 k v405 v406 v407 v408 fun v409 v410 =>
                                F16 k v405 v406 v407 v408 fun v411 v412 =>
                                bif (!decide (v410 = v412)) then
                                  r0 false
                                else
                                bif (!decide (v409 = v411)) then
                                  r0 false
                                else
                                bif decide (v410 = 0) then
                                  F15 k v407 v408 v405 v406 fun v413 v414 =>
                                  bif (!decide (v414 = 0)) then
                                    r0 false
                                  else
                                  bif (!decide (v413 = (w64 (0 - v409)))) then
                                    r0 false
                                  else
                                  bif decide (v385 = 0) then
                                    F9 k v382 v383 v384 fun _ _ v417 =>
                                    bif (!decide (v417 = 0)) then
                                      r0 false
                                    else
                                      r0 false
                                  else
                                  bif (!decide (v379 = 0)) then
                                    r0 (decide ((((List.length v378) : Nat) : Int) = 0))
                                  else
                                    F6 k v1 v2 v3
                                      (fun v418 =>
                                        bif (!decide (v418 = 0)) then
                                          r0 false
                                        else
                                          G43 k 0 0 v378 []
                                            (fun _ _ _ _ =>
                                              r0 true)
                                            r0)
                                      (fun v419 v420 =>
                                        bif (!decide (v420 = 0)) then
                                          r0 false
                                        else
                                          G43 k 0 0 v378 v419
                                            (fun _ _ _ _ =>
                                              r0 true)
                                            r0)
                                else
                                bif decide (v385 = 0) then
                                  F9 k v382 v383 v384 fun _ _ v423 =>
                                  bif (!decide (v423 = 0)) then
                                    r0 false
                                  else
                                    r0 false
                                else
                                bif (!decide (v379 = 0)) then
                                  r0 (decide ((((List.length v378) : Nat) : Int) = 0))
                                else
                                  F6 k v1 v2 v3
                                    (fun v424 =>
                                      bif (!decide (v424 = 0)) then
                                        r0 false
                                      else
                                        G43 k 0 0 v378 []
                                          (fun _ _ _ _ =>
                                            r0 true)
                                          r0)
                                    (fun v425 v426 =>
                                      bif (!decide (v426 = 0)) then
                                        r0 false
                                      else
                                        G43 k 0 0 v378 v425
                                          (fun _ _ _ _ =>
                                            r0 true)
                                          r0))
                      (fun v427 v428 =>
                        bif (!decide (v385 = v428)) then
                          r0 false
                        else
                          F17 k v427 fun v429 =>
                          bif (!v429) then
                            r0 false
                          else
                            F8 k code fun v430 v431 v432 =>
                            F9 k v430 v431 v432 fun v433 v434 v435 =>
                            F10 k v430 v431 v432 fun v436 v437 v438 =>
                            bif (!decide (v435 = v438)) then
                              r0 false
                            else
                            bif (!(decide (v433 = v436) && decide (v434 = v437))) then
                              r0 false
                            else
                              F11 k code fun v439 v440 v441 v442 =>
                              F12 k v439 v440 v441 v442 fun v443 v444 =>
                              F13 k v439 v440 v441 v442 fun v445 v446 =>
                              bif (!decide (v444 = v446)) then
                                r0 false
                              else
                              bif (!(v443 == v445)) then
                                r0 false
                              else
                                F14 k code fun v447 v448 v449 v450 =>
                                F15 k v447 v448 v449 v450 fun v451 v452 =>
                                F16 k v447 v448 v449 v450 fun v453 v454 =>
                                bif (!decide (v452 = v454)) then
                                  r0 false
                                else
                                bif (!decide (v451 = v453)) then
                                  r0 false
                                else
                                bif decide (v452 = 0) then
                                  F15 k v449 v450 v447 v448 fun v455 v456 =>
                                  bif (!decide (v456 = 0)) then
                                    r0 false
                                  else
                                  bif (!decide (v455 = (w64 (0 - v451)))) then
                                    r0 false
                                  else
                                  bif decide (v385 = 0) then
                                    F9 k v382 v383 v384 fun _ _ v459 =>
                                    bif (!decide (v459 = 0)) then
                                      r0 false
                                    else
                                      r0 false
                                  else
                                  bif (!decide (v379 = 0)) then
                                    r0 (decide ((((List.length v378) : Nat) : Int) = 0))
                                  else
                                    F6 k v1 v2 v3
                                      (fun v460 =>
                                        bif (!decide (v460 = 0)) then
                                          r0 false
                                        else
                                          G43 k 0 0 v378 []
                                            (fun _ _ _ _ =>
                                              r0 true)
                                            r0)
                                      (fun v461 v462 =>
                                        bif (!decide (v462 = 0)) then
                                          r0 false
                                        else
                                          G43 k 0 0 v378 v461
                                            (fun _ _ _ _ =>
                                              r0 true)
                                            r0)
                                else
                                bif decide (v385 = 0) then
                                  F9 k v382 v383 v384 fun _ _ v465 =>
                                  bif (!decide (v465 = 0)) then
                                    r0 false
                                  else
                                    r0 false
                                else
                                bif (!decide (v379 = 0)) then
                                  r0 (decide ((((List.length v378) : Nat) : Int) = 0))
                                else
                                  F6 k v1 v2 v3
                                    (fun v466 =>
                                      bif (!decide (v466 = 0)) then
                                        r0 false
                                      else
                                        G43 k 0 0 v378 []
                                          (fun _ _ _ _ =>
                                            r0 true)
                                          r0)
                                    (fun v467 v468 =>
                                      bif (!decide (v468 = 0)) then
                                        r0 false
                                      else
                                        G43 k 0 0 v378 v467
                                          (fun _ _ _ _ =>
                                            r0 true)
                                          r0)))
                  (fun v469 v470 =>
                    F7 k v382 v383 v384
                      (fun v471 =>
                        bif (!decide (v470 = v471)) then
                          r0 false
                        else
                          F18 k v469 fun v472 =>
                          bif (!v472) then
                            r0 false
                          else
                            F8 k code fun v473 v474 v475 =>
                            F9 k v473 v474 v475 fun v476 v477 v478 =>
                            F10 k v473 v474 v475 fun v479 v480 v481 =>
                            bif (!decide (v478 = v481)) then
                              r0 false
                            else
                            bif (!(decide (v476 = v479) && decide (v477 = v480))) then
                              r0 false
                            else
                              F11 k code fun v482 v483 v484 v485 =>
                              F12 k v482 v483 v484 v485 fun v486 v487 =>
                              F13 k v482 v483 v484 v485 fun v488 v489 =>
                              bif (!decide (v487 = v489)) then
                                r0 false
                              else
                              bif (!(v486 == v488)) then
                                r0 false
                              else
                                F14 k code fun v490 v491 v492 v493 =>
                                F15 k v490 v491 v492 v493 fun v494 v495 =>
                                F16 k v490 v491 v492 v493 fun v496 v497 =>
                                bif (!decide (v495 = v497)) then
                                  r0 false
                                else
                                bif (!decide (v494 = v496)) then
                                  r0 false
                                else
                                bif decide (v495 = 0) then
                                  F15 k v492 v493 v490 v491 fun v498 v499 =>
                                  bif (!decide (v499 = 0)) then
                                    r0 false
                                  else
                                  bif (!decide (v498 = (w64 (0 - v494)))) then
                                    r0 false
                                  else
                                  bif decide (v470 = 0) then
                                    F9 k v382 v383 v384 fun v500 v501 v502 =>
                                    bif (!decide (v502 = 0)) then
                                      r0 false
                                    else
                                    bif decide ((((List.length v469) : Nat) : Int) = 0) then
                                      r0 false
                                    else
                                    bif (decide (0 ≤ (w64 ((((List.length v469) : Nat) : Int) - 1))) && decide ((w64 ((((List.length v469) : Nat) : Int) - 1)) < (((List.length v469) : Nat) : Int))) then
                                      (v469[(w64 ((((List.length v469) : Nat) : Int) - 1)).toNat]?).bind fun e_10 =>
                                      bif (!(decide (v500 = e_10.1) && decide (v501 = e_10.2))) then
                                        r0 false
                                      else
                                      bif (!decide (v379 = 0)) then
                                        r0 (decide ((((List.length v378) : Nat) : Int) = 0))
                                      else
                                        F6 k v1 v2 v3
                                          (fun v503 =>
                                            bif (!decide (v503 = 0)) then
                                              r0 false
                                            else
                                              G43 k 0 0 v378 []
                                                (fun _ _ _ _ =>
                                                  r0 true)
                                                r0)
                                          (fun v504 v505 =>
                                            bif (!decide (v505 = 0)) then
                                              r0 false
                                            else
                                              G43 k 0 0 v378 v504
                                                (fun _ _ _ _ =>
                                                  r0 true)
                                                r0)
                                    else
                                      none
                                  else
                                  bif (!decide (v379 = 0)) then
                                    r0 (decide ((((List.length v378) : Nat) : Int) = 0))
                                  else
                                    F6 k v1 v2 v3
                                      (fun v506 =>
                                        bif (!decide (v506 = 0)) then
                                          r0 false
                                        else
                                          G43 k 0 0 v378 []
                                            (fun _ _ _ _ =>
                                              r0 true)
                                            r0)
                                      (fun v507 v508 =>
                                        bif (!decide (v508 = 0)) then
                                          r0 false
                                        else
                                          G43 k 0 0 v378 v507
                                            (fun _ _ _ _ =>
                                              r0 true)
                                            r0)
                                else
                                bif decide (v470 = 0) then
                                  F9 k v382 v383 v384 fun v509 v510 v511 =>
                                  bif (!decide (v511 = 0)) then
                                    r0 false
                                  else
                                  bif decide ((((List.length v469) : Nat) : Int) = 0) then
                                    r0 false
                                  else
                                  bif (decide (0 ≤ (w64 ((((List.length v469) : Nat) : Int) - 1))) && decide ((w64 ((((List.length v469) : Nat) : Int) - 1)) < (((List.length v469) : Nat) : Int))) then
                                    (v469[(w64 ((((List.length v469) : Nat) : Int) - 1)).toNat]?).bind fun e_11 =>
                                    bif (!(decide (v509 = e_11.1) && decide (v510 = e_11.2))) then
                                      r0 false
                                    else
                                    bif (!decide (v379 = 0)) then
                                      r0 (decide ((((List.length v378) : Nat) : Int) = 0))
                                    else
                                      F6 k v1 v2 v3
                                        (fun v512 =>
                                          bif (!decide (v512 = 0)) then
                                            r0 false
                                          else
                                            G43 k 0 0 v378 []
                                              (fun _ _ _ _ =>
                                                r0 true)
                                              r0)
                                        (fun v513 v514 =>
                                          bif (!decide (v514 = 0)) then
                                            r0 false
                                          else
                                            G43 k 0 0 v378 v513
                                              (fun _ _ _ _ =>
                                                r0 true)
                                              r0)
                                  else
                                    none
                                else
                                bif (!decide (v379 = 0)) then
                                  r0 (decide ((((List.length v378) : Nat) : Int) = 0))
                                else
                                  F6 k v1 v2 v3
                                    (fun v515 =>
                                      bif (!decide (v515 = 0)) then
                                        r0 false
                                      else
                                        G43 k 0 0 v378 []
                                          (fun _ _ _ _ =>
                                            r0 true)
                                          r0)
                                    (fun v516 v517 =>
                                      bif (!decide (v517 = 0)) then
                                        r0 false
                                      else
                                        G43 k 0 0 v378 v516
                                          (fun _ _ _ _ =>
                                            r0 true)
                                          r0))
                      (fun v518 v519 =>
                        bif (!decide (v470 = v519)) then
                          r0 false
                        else
                          F19 k v469 v518 fun v520 =>
                          bif (!v520) then
                            r0 false
                          else
                            F8 k code fun v521 v522 v523 =>
                            F9 k v521 v522 v523 fun v524 v525 v526 =>
                            F10 k v521 v522 v523 fun v527 v528 v529 =>
                            bif (!decide (v526 = v529)) then
                              r0 false
                            else
                            bif (!(decide (v524 = v527) && decide (v525 = v528))) then
                              r0 false
                            else
                              F11 k code fun v530 v531 v532 v533 =>
                              F12 k v530 v531 v532 v533 fun v534 v535 =>
                              F13 k v530 v531 v532 v533 fun v536 v537 =>
                              bif (!decide (v535 = v537)) then
                                r0 false
                              else
                              bif (!(v534 == v536)) then
                                r0 false
                              else
                                F14 k code fun v538 v539 v540 v541 =>
                                F15 k v538 v539 v540 v541 fun v542 v543 =>
                                F16 k v538 v539 v540 v541 fun v544 v545 =>
                                bif (!decide (v543 = v545)) then
                                  r0 false
                                else
                                bif (!decide (v542 = v544)) then
                                  r0 false
                                else
                                bif decide (v543 = 0) then
                                  F15 k v540 v541 v538 v539 fun v546 v547 =>
                                  bif (!decide (v547 = 0)) then
                                    r0 false
                                  else
                                  bif (!decide (v546 = (w64 (0 - v542)))) then
                                    r0 false
                                  else
                                  bif decide (v470 = 0) then
                                    F9 k v382 v383 v384 fun v548 v549 v550 =>
                                    bif (!decide (v550 = 0)) then
                                      r0 false
                                    else
                                    bif decide ((((List.length v469) : Nat) : Int) = 0) then
                                      r0 false
                                    else
                                    bif (decide (0 ≤ (w64 ((((List.length v469) : Nat) : Int) - 1))) && decide ((w64 ((((List.length v469) : Nat) : Int) - 1)) < (((List.length v469) : Nat) : Int))) then
                                      (v469[(w64 ((((List.length v469) : Nat) : Int) - 1)).toNat]?).bind fun e_12 =>
                                      bif (!(decide (v548 = e_12.1) && decide (v549 = e_12.2))) then
                                        r0 false
                                      else
                                      bif (!decide (v379 = 0)) then
                                        r0 (decide ((((List.length v378) : Nat) : Int) = 0))
                                      else
                                        F6 k v1 v2 v3
                                          (fun v551 =>
                                            bif (!decide (v551 = 0)) then
                                              r0 false
                                            else
                                              G43 k 0 0 v378 []
                                                (fun _ _ _ _ =>
                                                  r0 true)
                                                r0)
                                          (fun v552 v553 =>
                                            bif (!decide (v553 = 0)) then
                                              r0 false
                                            else
                                              G43 k 0 0 v378 v552
                                                (fun _ _ _ _ =>
                                                  r0 true)
                                                r0)
                                    else
                                      none
                                  else
                                  bif (!decide (v379 = 0)) then
                                    r0 (decide ((((List.length v378) : Nat) : Int) = 0))
                                  else
                                    F6 k v1 v2 v3
                                      (fun v554 =>
                                        bif (!decide (v554 = 0)) then
                                          r0 false
                                        else
                                          G43 k 0 0 v378 []
                                            (fun _ _ _ _ =>
                                              r0 true)
                                            r0)
                                      (fun v555 v556 =>
                                        bif (!decide (v556 = 0)) then
                                          r0 false
                                        else
                                          G43 k 0 0 v378 v555
                                            (fun _ _ _ _ =>
                                              r0 true)
                                            r0)
                                else
                                bif decide (v470 = 0) then
                                  F9 k v382 v383 v384 fun v557 v558 v559 =>
                                  bif (!decide (v559 = 0)) then
                                    r0 false
                                  else
                                  bif decide ((((List.length v469) : Nat) : Int) = 0) then
                                    r0 false
                                  else
                                  bif (decide (0 ≤ (w64 ((((List.length v469) : Nat) : Int) - 1))) && decide ((w64 ((((List.length v469) : Nat) : Int) - 1)) < (((List.length v469) : Nat) : Int))) then
                                    (v469[(w64 ((((List.length v469) : Nat) : Int) - 1)).toNat]?).bind fun e_13 =>
                                    bif (!(decide (v557 = e_13.1) && decide (v558 = e_13.2))) then
                                      r0 false
                                    else
                                    bif (!decide (v379 = 0)) then
                                      r0 (decide ((((List.length v378) : Nat) : Int) = 0))
                                    else
                                      F6 k v1 v2 v3
                                        (fun v560 =>
                                          bif (!decide (v560 = 0)) then
                                            r0 false
                                          else
                                            G43 k 0 0 v378 []
                                              (fun _ _ _ _ =>
                                                r0 true)
                                              r0)
                                        (fun v561 v562 =>
                                          bif (!decide (v562 = 0)) then
                                            r0 false
                                          else
                                            G43 k 0 0 v378 v561
                                              (fun _ _ _ _ =>
                                                r0 true)
                                              r0)
                                  else
                                    none
                                else
                                bif (!decide (v379 = 0)) then
                                  r0 (decide ((((List.length v378) : Nat) : Int) = 0))
                                else
                                  F6 k v1 v2 v3
                                    (fun v563 =>
                                      bif (!decide (v563 = 0)) then
                                        r0 false
                                      else
                                        G43 k 0 0 v378 []
                                          (fun _ _ _ _ =>
                                            r0 true)
                                          r0)
                                    (fun v564 v565 =>
                                      bif (!decide (v565 = 0)) then
                                        r0 false
                                      else
                                        G43 k 0 0 v378 v564
                                          (fun _ _ _ _ =>
                                            r0 true)
                                          r0))))
          (fun v566 v567 =>
            bif (!decide (v379 = v567)) then
              r0 false
            else
              F19 k v378 v566 fun v568 =>
              bif (!v568) then
                r0 false
              else
                F5 k code fun v569 v570 v571 =>
                F6 k v569 v570 v571
                  (fun v572 =>
                    F7 k v569 v570 v571
                      (fun v573 =>
                        bif (!decide (v572 = v573)) then
                          r0 false
                        else
                          F4 k fun v574 =>
                          bif (!v574) then
                            r0 false
                          else
                            F8 k code fun v575 v576 v577 =>
                            F9 k v575 v576 v577 fun v578 v579 v580 =>
                            F10 k v575 v576 v577 fun v581 v582 v583 =>
                            bif (!decide (v580 = v583)) then
                              r0 false
                            else
                            bif (!(decide (v578 = v581) && decide (v579 = v582))) then
                              r0 false
                            else
                              F11 k code fun v584 v585 v586 v587 =>
                              F12 k v584 v585 v586 v587 fun v588 v589 =>
                              F13 k v584 v585 v586 v587 fun v590 v591 =>
                              bif (!decide (v589 = v591)) then
                                r0 false
                              else
                              bif (!(v588 == v590)) then
                                r0 false
                              else
                                F14 k code fun v592 v593 v594 v595 =>
                                F15 k v592 v593 v594 v595 fun v596 v597 =>
                                F16 k v592 v593 v594 v595 fun v598 v599 =>
                                bif (!decide (v597 = v599)) then
                                  r0 false
                                else
                                bif (!decide (v596 = v598)) then
                                  r0 false
                                else
                                bif decide (v597 = 0) then
                                  F15 k v594 v595 v592 v593 fun v600 v601 =>
                                  bif (!decide (v601 = 0)) then
                                    r0 false
                                  else
                                  bif (!decide (v600 = (w64 (0 - v596)))) then
                                    r0 false
                                  else
                                  bif decide (v572 = 0) then
                                    F9 k v569 v570 v571 fun _ _ v604 =>
                                    bif (!decide (v604 = 0)) then
                                      r0 false
                                    else
                                      r0 false
                                  else
                                  bif (!decide (v379 = 0)) then
                                    r0 (decide ((((List.length v378) : Nat) : Int) = 0))
                                  else
                                    F6 k v1 v2 v3
                                      (fun v605 =>
                                        bif (!decide (v605 = 0)) then
                                          r0 false
                                        else
                                          G43 k 0 0 v378 []
                                            (fun _ _ _ _ =>
                                              r0 true)
                                            r0)
                                      (fun v606 v607 =>
                                        bif (!decide (v607 = 0)) then
                                          r0 false
                                        else
                                          G43 k 0 0 v378 v606
                                            (fun _ _ _ _ =>
                                              r0 true)
                                            r0)
                                else
                                bif decide (v572 = 0) then
                                  F9 k v569 v570 v571 fun _ _ v610 =>
                                  bif (!decide (v610 = 0)) then
                                    r0 false
                                  else
                                    r0 false
                                else
                                bif (!decide (v379 = 0)) then
                                  r0 (decide ((((List.length v378) : Nat) : Int) = 0))
                                else
                                  F6 k v1 v2 v3
                                    (fun v611 =>
                                      bif (!decide (v611 = 0)) then
                                        r0 false
                                      else
                                        G43 k 0 0 v378 []
                                          (fun _ _ _ _ =>
                                            r0 true)
                                          r0)
                                    (fun v612 v613 =>
                                      bif (!decide (v613 = 0)) then
                                        r0 false
                                      else
                                        G43 k 0 0 v378 v612
                                          (fun _ _ _ _ =>
                                            r0 true)
                                          r0))
                      (fun v614 v615 =>
                        bif (!decide (v572 = v615)) then
                          r0 false
                        else
                          F17 k v614 fun v616 =>
                          bif (!v616) then
                            r0 false
                          else
                            F8 k code fun v617 v618 v619 =>
                            F9 k v617 v618 v619 fun v620 v621 v622 =>
                            F10 k v617 v618 v619 fun v623 v624 v625 =>
                            bif (!decide (v622 = v625)) then
                              r0 false
                            else
                            bif (!(decide (v620 = v623) && decide (v621 = v624))) then
                              r0 false
                            else
                              F11 k code fun v626 v627 v628 v629 =>
                              F12 k v626 v627 v628 v629 fun v630 v631 =>
                              F13 k v626 v627 v628 v629 fun v632 v633 =>
                              bif (!decide (v631 = v633)) then
                                r0 false
                              else
                              bif (!(v630 == v632)) then
                                r0 false
                              else
                                F14 k code fun v634 v635 v636 v637 =>
                                F15 k v634 v635 v636 v637 fun v638 v639 =>
                                F16 k v634 v635 v636 v637 fun v640 v641 =>
                                bif (!decide (v639 = v641)) then
                                  r0 false
                                else
                                bif (!decide (v638 = v640)) then
                                  r0 false
                                else
                                bif decide (v639 = 0) then
                                  F15 k v636 v637 v634 v635 fun v642 v643 =>
                                  bif (!decide (v643 = 0)) then
                                    r0 false
                                  else
                                  bif (!decide (v642 = (w64 (0 - v638)))) then
                                    r0 false
                                  else
                                  bif decide (v572 = 0) then
                                    F9 k v569 v570 v571 fun _ _ v646 =>
                                    bif (!decide (v646 = 0)) then
                                      r0 false
                                    else
                                      r0 false
                                  else
                                  bif (!decide (v379 = 0)) then
                                    r0 (decide ((((List.length v378) : Nat) : Int) = 0))
                                  else
                                    F6 k v1 v2 v3
                                      (fun v647 =>
                                        bif (!decide (v647 = 0)) then
                                          r0 false
                                        else
                                          G43 k 0 0 v378 []
                                            (fun _ _ _ _ =>
                                              r0 true)
                                            r0)
                                      (fun v648 v649 =>
                                        bif (!decide (v649 = 0)) then
                                          r0 false
                                        else
                                          G43 k 0 0 v378 v648
                                            (fun _ _ _ _ =>
                                              r0 true)
                                            r0)
                                else
                                bif decide (v572 = 0) then
                                  F9 k v569 v570 v571 fun _ _ v652 =>
                                  bif (!decide (v652 = 0)) then
                                    r0 false
                                  else
                                    r0 false
                                else
                                bif (!decide (v379 = 0)) then
                                  r0 (decide ((((List.length v378) : Nat) : Int) = 0))
                                else
                                  F6 k v1 v2 v3
                                    (fun v653 =>
                                      bif (!decide (v653 = 0)) then
                                        r0 false
                                      else
                                        G43 k 0 0 v378 []
                                          (fun _ _ _ _ =>
                                            r0 true)
                                          r0)
                                    (fun v654 v655 =>
                                      bif (!decide (v655 = 0)) then
                                        r0 false
                                      else
                                        G43 k 0 0 v378 v654
                                          (fun _ _ _ _ =>
                                            r0 true)
                                          r0)))
                  (fun v656 v657 =>
                    F7 k v569 v570 v571
                      (fun v658 =>
                        bif (!decide (v657 = v658)) then
                          r0 false
                        else
                          F18 k v656 fun v659 =>
                          bif (!v659) then
                            r0 false
                          else
                            F8 k code fun v660 v661 v662 =>
                            F9 k v660 v661 v662 fun v663 v664 v665 =>
                            F10 k v660 v661 v662 fun v666 v667 v668 =>
                            bif (!decide (v665 = v668)) then
                              r0 false
                            else
                            bif (!(decide (v663 = v666) && decide (v664 = v667))) then
                              r0 false
                            else
                              F11 k code fun v669 v670 v671 v672 =>
                              F12 k v669 v670 v671 v672 fun v673 v674 =>
                              F13 k v669 v670 v671 v672 fun v675 v676 =>
                              bif (!decide (v674 = v676)) then
                                r0 false
                              else
                              bif (!(v673 == v675)) then
                                r0 false
                              else
                                F14 k code fun v677 v678 v679 v680 =>
                                F15 k v677 v678 v679 v680 fun v681 v682 =>
                                F16 k v677 v678 v679 v680 fun v683 v684 =>
                                bif (!decide (v682 = v684)) then
                                  r0 false
                                else
                                bif (!decide (v681 = v683)) then
                                  r0 false
                                else
                                bif decide (v682 = 0) then
                                  F15 k v679 v680 v677 v678 fun v685 v686 =>
                                  bif (!decide (v686 = 0)) then
                                    r0 false
                                  else
                                  bif (!decide (v685 = (w64 (0 - v681)))) then
                                    r0 false
                                  else
                                  bif decide (v657 = 0) then
                                    F9 k v569 v570 v571 fun v687 v688 v689 =>
                                    bif (!decide (v689 = 0)) then
                                      r0 false
                                    else
                                    bif decide ((((List.length v656) : Nat) : Int) = 0) then
                                      r0 false
                                    else
                                    bif (decide (0 ≤ (w64 ((((List.length v656) : Nat) : Int) - 1))) && decide ((w64 ((((List.length v656) : Nat) : Int) - 1)) < (((List.length v656) : Nat) : Int))) then
                                      (v656[(w64 ((((List.length v656) : Nat) : Int) - 1)).toNat]?).bind fun e_14 =>
                                      bif (!(decide (v687 = e_14.1) && decide (v688 = e_14.2))) then
                                        r0 false
                                      else
                                      bif (!decide (v379 = 0)) then
                                        r0 (decide ((((List.length v378) : Nat) : Int) = 0))
                                      else
                                        F6 k v1 v2 v3
                                          (fun v690 =>
                                            bif (!decide (v690 = 0)) then
                                              r0 false
                                            else
                                              G43 k 0 0 v378 []
                                                (fun _ _ _ _ =>
                                                  r0 true)
                                                r0)
                                          (fun v691 v692 =>
                                            bif (!decide (v692 = 0)) then
                                              r0 false
                                            else
                                              G43 k 0 0 v378 v691
                                                (fun _ _ _ _ =>
                                                  r0 true)
                                                r0)
                                    else
                                      none
                                  else
                                  bif (!decide (v379 = 0)) then
                                    r0 (decide ((((List.length v378) : Nat) : Int) = 0))
                                  else
                                    F6 k v1 v2 v3
                                      (fun v693 =>
                                        bif (!decide (v693 = 0)) then
                                          r0 false
                                        else
                                          G43 k 0 0 v378 []
                                            (fun _ _ _ _ =>
                                              r0 true)
                                            r0)
                                      (fun v694 v695 =>
                                        bif (!decide (v695 = 0)) then
                                          r0 false
                                        else
                                          G43 k 0 0 v378 v694
                                            (fun _ _ _ _ =>
                                              r0 true)
                                            r0)
                                else
                                bif decide (v657 = 0) then
                                  F9 k v569 v570 v571 fun v696 v697 v698 =>
                                  bif (!decide (v698 = 0)) then
                                    r0 false
                                  else
                                  bif decide ((((List.length v656) : Nat) : Int) = 0) then
                                    r0 false
                                  else
                                  bif (decide (0 ≤ (w64 ((((List.length v656) : Nat) : Int) - 1))) && decide ((w64 ((((List.length v656) : Nat) : Int) - 1)) < (((List.length v656) : Nat) : Int))) then
                                    (v656[(w64 ((((List.length v656) : Nat) : Int) - 1)).toNat]?).bind fun e_15 =>
                                    bif (!(decide (v696 = e_15.1) && decide (v697 = e_15.2))) then
                                      r0 false
                                    else
                                    bif (!decide (v379 = 0)) then
                                      r0 (decide ((((List.length v378) : Nat) : Int) = 0))
                                    else
                                      F6 k v1 v2 v3
                                        (fun v699 =>
                                          bif (!decide (v699 = 0)) then
                                            r0 false
                                          else
                                            G43 k 0 0 v378 []
                                              (fun _ _ _ _ =>
                                                r0 true)
                                              r0)
                                        (fun v700 v701 =>
                                          bif (!decide (v701 = 0)) then
                                            r0 false
                                          else
                                            G43 k 0 0 v378 v700
                                              (fun _ _ _ _ =>
                                                r0 true)
                                              r0)
                                  else
                                    none
                                else
                                bif (!decide (v379 = 0)) then
                                  r0 (decide ((((List.length v378) : Nat) : Int) = 0))
                                else
                                  F6 k v1 v2 v3
                                    (fun v702 =>
                                      bif (!decide (v702 = 0)) then
                                        r0 false
                                      else
                                        G43 k 0 0 v378 []
                                          (fun _ _ _ _ =>
                                            r0 true)
                                          r0)
                                    (fun v703 v704 =>
                                      bif (!decide (v704 = 0)) then
                                        r0 false
                                      else
                                        G43 k 0 0 v378 v703
                                          (fun _ _ _ _ =>
                                            r0 true)
                                          r0))
                      (fun v705 v706 =>
                        bif (!decide (v657 = v706)) then
                          r0 false
                        else
                          F19 k v656 v705 fun v707 =>
                          bif (!v707) then
                            r0 false
                          else
                            F8 k code fun v708 v709 v710 =>
                            F9 k v708 v709 v710 fun v711 v712 v713 =>
                            F10 k v708 v709 v710 fun v714 v715 v716 =>
                            bif (!decide (v713 = v716)) then
                              r0 false
                            else
                            bif (!(decide (v711 = v714) && decide (v712 = v715))) then
                              r0 false
                            else
                              F11 k code fun v717 v718 v719 v720 =>
                              F12 k v717 v718 v719 v720 fun v721 v722 =>
                              F13 k v717 v718 v719 v720 fun v723 v724 =>
                              bif (!decide (v722 = v724)) then
                                r0 false
                              else
                              bif (!(v721 == v723)) then
                                r0 false
                              else
                                F14 k code fun v725 v726 v727 v728 =>
                                F15 k v725 v726 v727 v728 fun v729 v730 =>
                                F16 k v725 v726 v727 v728 fun v731 v732 =>
                                bif (!decide (v730 = v732)) then
                                  r0 false
                                else
                                bif (!decide (v729 = v731)) then
                                  r0 false
                                else
                                bif decide (v730 = 0) then
                                  F15 k v727 v728 v725 v726 fun v733 v734 =>
                                  bif (!decide (v734 = 0)) then
                                    r0 false
                                  else
                                  bif (!decide (v733 = (w64 (0 - v729)))) then
                                    r0 false
                                  else
                                  bif decide (v657 = 0) then
                                    F9 k v569 v570 v571 fun v735 v736 v737 =>
                                    bif (!decide (v737 = 0)) then
                                      r0 false
                                    else
                                    bif decide ((((List.length v656) : Nat) : Int) = 0) then
                                      r0 false
                                    else
                                    bif (decide (0 ≤ (w64 ((((List.length v656) : Nat) : Int) - 1))) && decide ((w64 ((((List.length v656) : Nat) : Int) - 1)) < (((List.length v656) : Nat) : Int))) then
                                      (v656[(w64 ((((List.length v656) : Nat) : Int) - 1)).toNat]?).bind fun e_16 =>
                                      bif (!(decide (v735 = e_16.1) && decide (v736 = e_16.2))) then
                                        r0 false
                                      else
                                      bif (!decide (v379 = 0)) then
                                        r0 (decide ((((List.length v378) : Nat) : Int) = 0))
                                      else
                                        F6 k v1 v2 v3
                                          (fun v738 =>
                                            bif (!decide (v738 = 0)) then
                                              r0 false
                                            else
                                              G43 k 0 0 v378 []
                                                (fun _ _ _ _ =>
                                                  r0 true)
                                                r0)
                                          (fun v739 v740 =>
                                            bif (!decide (v740 = 0)) then
                                              r0 false
                                            else
                                              G43 k 0 0 v378 v739
                                                (fun _ _ _ _ =>
                                                  r0 true)
                                                r0)
                                    else
                                      none
                                  else
                                  bif (!decide (v379 = 0)) then
                                    r0 (decide ((((List.length v378) : Nat) : Int) = 0))
                                  else
                                    F6 k v1 v2 v3
                                      (fun v741 =>
                                        bif (!decide (v741 = 0)) then
                                          r0 false
                                        else
                                          G43 k 0 0 v378 []
                                            (fun _ _ _ _ =>
                                              r0 true)
                                            r0)
                                      (fun v742 v743 =>
                                        bif (!decide (v743 = 0)) then
                                          r0 false
                                        else
                                          G43 k 0 0 v378 v742
                                            (fun _ _ _ _ =>
                                              r0 true)
                                            r0)
                                else
                                bif decide (v657 = 0) then
                                  F9 k v569 v570 v571 fun v744 v745 v746 =>
                                  bif (!decide (v746 = 0)) then
                                    r0 false
                                  else
                                  bif decide ((((List.length v656) : Nat) : Int) = 0) then
                                    r0 false
                                  else
                                  bif (decide (0 ≤ (w64 ((((List.length v656) : Nat) : Int) - 1))) && decide ((w64 ((((List.length v656) : Nat) : Int) - 1)) < (((List.length v656) : Nat) : Int))) then
                                    (v656[(w64 ((((List.length v656) : Nat) : Int) - 1)).toNat]?).bind fun e_17 =>
                                    bif (!(decide (v744 = e_17.1) && decide (v745 = e_17.2))) then
                                      r0 false
                                    else
                                    bif (!decide (v379 = 0)) then
                                      r0 (decide ((((List.length v378) : Nat) : Int) = 0))
                                    else
                                      F6 k v1 v2 v3
                                        (fun v747 =>
                                          bif (!decide (v747 = 0)) then
                                            r0 false
                                          else
                                            G43 k 0 0 v378 []
                                              (fun _ _ _ _ =>
                                                r0 true)
                                              r0)
                                        (fun v748 v749 =>
                                          bif (!decide (v749 = 0)) then
                                            r0 false
                                          else
                                            G43 k 0 0 v378 v748
                                              (fun _ _ _ _ =>
                                                r0 true)
                                              r0)
                                  else
                                    none
                                else
                                bif (!decide (v379 = 0)) then
                                  r0 (decide ((((List.length v378) : Nat) : Int) = 0))
                                else
                                  F6 k v1 v2 v3
                                    (fun v750 =>
                                      bif (!decide (v750 = 0)) then
                                        r0 false
                                      else
                                        G43 k 0 0 v378 []
                                          (fun _ _ _ _ =>
                                            r0 true)
                                          r0)
                                    (fun v751 v752 =>
                                      bif (!decide (v752 = 0)) then
                                        r0 false
                                      else
                                        G43 k 0 0 v378 v751
                                          (fun _ _ _ _ =>
                                            r0 true)
                                          r0)))))
def laws_FnBests {α : Type} (k : Nat) (code : List Int) (r0 : Bool → Option α) : Option α := laws_FnBests_F laws_big spec_DrawBestOfSecond impl_BestOfSecond spec_BestOfSecond laws_points9_0N_1N spec_DrawBestOfFirst impl_BestOfFirst spec_BestOfFirst spec_DrawNearestFraction impl_NearestFraction spec_NearestFraction spec_DrawIsConvergent impl_IsConvergent spec_IsConvergent spec_DrawCompareRatios impl_CompareRatios spec_CompareRatios laws_points9_0N laws_points9_1N laws_points9 laws_FnBests_l45 laws_FnBests_l43 k code r0

end Go.Sh
