/- The program's functions, read without memory: printed by a program of ours. -/
import Derived.Test.YtegnnbhphgeocaaMaB
namespace Go.Sh
open Go Go.Ev

/-- loop.example/g01297/spec.l01In -/
def spec_l01In {α : Type} (k : Nat) (n_ : Int) (low : Int) (high : Int) (r0 : Bool → Option α) : Option α :=
  bif decide (low ≤ n_) then
    r0 (decide (n_ ≤ high))
  else
    r0 false

/-- loop.example/g01297/spec.l01Fits -/
def spec_l01Fits {α : Type} (k : Nat) (x : Int) (r0 : Bool → Option α) : Option α :=
  spec_l01In k x (-1000000) 1000000 fun v =>
  r0 v

/-- loop.example/g01297/spec.l10Ratio -/
def spec_l10Ratio {α : Type} (k : Nat) (p_ : Int) (q_ : Int) (low : Int) (r0 : Bool → Option α) : Option α :=
  spec_l01Fits k p_ fun v =>
  bif v then
    spec_l01In k q_ low 1000000 fun v1 =>
    r0 v1
  else
    r0 false

/-- loop.example/g01297/spec.l01Floor -/
def spec_l01Floor {α : Type} (k : Nat) (p_ : Int) (q_ : Int) (r0 : Int → Option α) : Option α :=
  bif decide (q_ = 0) then
    none
  else
  bif decide (q_ = 0) then
    none
  else
  bif (!decide ((Int.tmod p_ q_) = 0)) then
    bif (!(decide (p_ < 0) == decide (q_ < 0))) then
      r0 (w64 ((w64 (Int.tdiv p_ q_)) - 1))
    else
      r0 (w64 (Int.tdiv p_ q_))
  else
    r0 (w64 (Int.tdiv p_ q_))

/-- loop.example/g01297/spec.l10Near -/
def spec_l10Near {α : Type} (k : Nat) (x : Int) (q_ : Int) (r0 : Int → Int → Option α) : Option α :=
  spec_l01Floor k x q_ fun v =>
  bif decide ((w64 (q_ - (w64 (x - (w64 (v * q_)))))) < (w64 (x - (w64 (v * q_))))) then
    r0 (w64 (v + 1)) (w64 (q_ - (w64 (x - (w64 (v * q_))))))
  else
    r0 v (w64 (x - (w64 (v * q_))))

def spec_l10Best_l3 {α : Type} : Nat → Int → Int → Int → Bool → Int → Int → Int → (List (Int × Int)) → (Int → Int → Int → Bool → Int → Int → Int → (List (Int × Int)) → Option α) → ((List (Int × Int)) → Option α) → Option α
  | 0, _, _, _, _, _, _, _, _, _, _ => none
  | k + 1, p_1, q_1, n_1, second1, last, under, k_, out, b0, r0 =>
    bif decide (k_ ≤ n_1) then
      spec_l10Near k (w64 (k_ * p_1)) q_1 fun v v1 =>
      bif decide ((((List.length out) : Nat) : Int) = 0) then
        bif decide (((List.length out) + 1) ≤ big) then
          bif decide (v1 = 0) then
            b0 p_1 q_1 n_1 second1 v1 k_ k_ (out ++ [(v, k_)])
          else
            spec_l10Best_l3 k p_1 q_1 n_1 second1 v1 k_ (w64 (k_ + 1)) (out ++ [(v, k_)]) b0 r0
        else
          none
      else
      bif second1 then
        bif decide (v1 < last) then
          bif decide (((List.length out) + 1) ≤ big) then
            bif decide (v1 = 0) then
              b0 p_1 q_1 n_1 second1 v1 k_ k_ (out ++ [(v, k_)])
            else
              spec_l10Best_l3 k p_1 q_1 n_1 second1 v1 k_ (w64 (k_ + 1)) (out ++ [(v, k_)]) b0 r0
          else
            none
        else
        bif (!second1) then
          bif decide ((w64 (v1 * under)) < (w64 (last * k_))) then
            bif decide (((List.length out) + 1) ≤ big) then
              bif decide (v1 = 0) then
                b0 p_1 q_1 n_1 second1 v1 k_ k_ (out ++ [(v, k_)])
              else
                spec_l10Best_l3 k p_1 q_1 n_1 second1 v1 k_ (w64 (k_ + 1)) (out ++ [(v, k_)]) b0 r0
            else
              none
          else
          bif decide (v1 = 0) then
            b0 p_1 q_1 n_1 second1 last under k_ out
          else
            spec_l10Best_l3 k p_1 q_1 n_1 second1 last under (w64 (k_ + 1)) out b0 r0
        else
        bif decide (v1 = 0) then
          b0 p_1 q_1 n_1 second1 last under k_ out
        else
          spec_l10Best_l3 k p_1 q_1 n_1 second1 last under (w64 (k_ + 1)) out b0 r0
      else
      bif (!second1) then
        bif decide ((w64 (v1 * under)) < (w64 (last * k_))) then
          bif decide (((List.length out) + 1) ≤ big) then
            bif decide (v1 = 0) then
              b0 p_1 q_1 n_1 second1 v1 k_ k_ (out ++ [(v, k_)])
            else
              spec_l10Best_l3 k p_1 q_1 n_1 second1 v1 k_ (w64 (k_ + 1)) (out ++ [(v, k_)]) b0 r0
          else
            none
        else
        bif decide (v1 = 0) then
          b0 p_1 q_1 n_1 second1 last under k_ out
        else
          spec_l10Best_l3 k p_1 q_1 n_1 second1 last under (w64 (k_ + 1)) out b0 r0
      else
      bif decide (v1 = 0) then
        b0 p_1 q_1 n_1 second1 last under k_ out
      else
        spec_l10Best_l3 k p_1 q_1 n_1 second1 last under (w64 (k_ + 1)) out b0 r0
    else
      b0 p_1 q_1 n_1 second1 last under k_ out

/-- loop.example/g01297/spec.l10Best -/
def spec_l10Best {α : Type} (k : Nat) (p_ : Int) (q_ : Int) (n_ : Int) (second : Bool) (r0 : (List (Int × Int)) → Option α) : Option α :=
  spec_l10Best_l3 k p_ q_ n_ second 0 1 1 []
    (fun p_2 q_2 n_2 second2 last1 under1 k_1 out1 =>
      r0 out1)
    r0

/-- loop.example/g01297/spec.BestOfFirst -/
def spec_BestOfFirst {α : Type} (k : Nat) (p_ : Int) (q_ : Int) (n_ : Int) (r0 : Int → Option α) (r1 : (List (Int × Int)) → Int → Option α) : Option α :=
  spec_l10Ratio k p_ q_ 1 fun v =>
  bif (!v) then
    r0 2
  else
    spec_l01In k n_ 1 100000 fun v1 =>
    bif (!v1) then
      r0 2
    else
      spec_l10Best k p_ q_ n_ false fun v2 =>
      r1 v2 0

/-- loop.example/g01297/impl.in -/
def impl_in {α : Type} (k : Nat) (n_ : Int) (low : Int) (high : Int) (r0 : Bool → Option α) : Option α :=
  bif decide (low ≤ n_) then
    r0 (decide (n_ ≤ high))
  else
    r0 false

/-- loop.example/g01297/impl.isCoord -/
def impl_isCoord {α : Type} (k : Nat) (n_ : Int) (r0 : Bool → Option α) : Option α :=
  impl_in k n_ (-1000000) 1000000 fun v =>
  r0 v

/-- loop.example/g01297/impl.ratioOk -/
def impl_ratioOk {α : Type} (k : Nat) (p_ : Int) (q_ : Int) (r0 : Bool → Option α) : Option α :=
  impl_isCoord k p_ fun v =>
  bif v then
    impl_in k q_ 1 1000000 fun v1 =>
    r0 v1
  else
    r0 false

/-- loop.example/g01297/impl.bestOk -/
def impl_bestOk {α : Type} (k : Nat) (p_ : Int) (q_ : Int) (n_ : Int) (r0 : Bool → Option α) : Option α :=
  impl_ratioOk k p_ q_ fun v =>
  bif v then
    impl_in k n_ 1 100000 fun v1 =>
    r0 v1
  else
    r0 false

/-- loop.example/g01297/impl.floor -/
def impl_floor {α : Type} (k : Nat) (a : Int) (b_ : Int) (r0 : Int → Option α) : Option α :=
  bif decide (b_ = 0) then
    none
  else
  bif decide (b_ = 0) then
    none
  else
  bif (!decide ((Int.tmod a b_) = 0)) then
    bif (!(decide (a < 0) == decide (b_ < 0))) then
      r0 (w64 ((w64 (Int.tdiv a b_)) - 1))
    else
      r0 (w64 (Int.tdiv a b_))
  else
    r0 (w64 (Int.tdiv a b_))

/-- loop.example/g01297/impl.size -/
def impl_size {α : Type} (k : Nat) (n_ : Int) (r0 : Int → Option α) : Option α :=
  r0 (max n_ (w64 (0 - n_)))

/-- loop.example/g01297/impl.bestOfFirst$1 -/
def impl_bestOfFirst_1 {α : Type} (k : Nat) (k_ : Int) (r0 : Int → Option α) : Option α :=
  r0 k_

def impl_records_3F_impl_bestOfFirst_1_l3 {α : Type} : Nat → Int → Int → Int → Int → Int → Int → (List (Int × Int)) → (Int → Int → Int → Int → Int → Int → (List (Int × Int)) → Option α) → ((List (Int × Int)) → Option α) → Option α
  | 0, _, _, _, _, _, _, _, _, _ => none
  | k + 1, p_1, q_1, n_1, best, bestBy, k_, out, b0, r0 =>
    bif decide (k_ ≤ n_1) then
      impl_floor k (w64 (k_ * p_1)) q_1 fun v =>
      bif decide (q_1 < (w64 (2 * (w64 ((w64 (k_ * p_1)) - (w64 (v * q_1))))))) then
        impl_size k (w64 ((w64 (k_ * p_1)) - (w64 ((w64 (v + 1)) * q_1)))) fun v1 =>
        bif decide (bestBy = 0) then
          bif decide (((List.length out) + 1) ≤ big) then
            impl_bestOfFirst_1 k k_ fun v2 =>
            impl_records_3F_impl_bestOfFirst_1_l3 k p_1 q_1 n_1 v1 v2 (w64 (k_ + 1)) (out ++ [((w64 (v + 1)), k_)]) b0 r0
          else
            none
        else
          impl_bestOfFirst_1 k k_ fun v3 =>
          bif decide ((w64 (v1 * bestBy)) < (w64 (best * v3))) then
            bif decide (((List.length out) + 1) ≤ big) then
              impl_bestOfFirst_1 k k_ fun v4 =>
              impl_records_3F_impl_bestOfFirst_1_l3 k p_1 q_1 n_1 v1 v4 (w64 (k_ + 1)) (out ++ [((w64 (v + 1)), k_)]) b0 r0
            else
              none
          else
            impl_records_3F_impl_bestOfFirst_1_l3 k p_1 q_1 n_1 best bestBy (w64 (k_ + 1)) out b0 r0
      else
        impl_size k (w64 ((w64 (k_ * p_1)) - (w64 (v * q_1)))) fun v5 =>
        bif decide (bestBy = 0) then
          bif decide (((List.length out) + 1) ≤ big) then
            impl_bestOfFirst_1 k k_ fun v6 =>
            impl_records_3F_impl_bestOfFirst_1_l3 k p_1 q_1 n_1 v5 v6 (w64 (k_ + 1)) (out ++ [(v, k_)]) b0 r0
          else
            none
        else
          impl_bestOfFirst_1 k k_ fun v7 =>
          bif decide ((w64 (v5 * bestBy)) < (w64 (best * v7))) then
            bif decide (((List.length out) + 1) ≤ big) then
              impl_bestOfFirst_1 k k_ fun v8 =>
              impl_records_3F_impl_bestOfFirst_1_l3 k p_1 q_1 n_1 v5 v8 (w64 (k_ + 1)) (out ++ [(v, k_)]) b0 r0
            else
              none
          else
            impl_records_3F_impl_bestOfFirst_1_l3 k p_1 q_1 n_1 best bestBy (w64 (k_ + 1)) out b0 r0
    else
      b0 p_1 q_1 n_1 best bestBy k_ out

/-- loop.example/g01297/impl.records -/
def impl_records_3F_impl_bestOfFirst_1 {α : Type} (k : Nat) (p_ : Int) (q_ : Int) (n_ : Int) (r0 : (List (Int × Int)) → Option α) : Option α :=
  impl_records_3F_impl_bestOfFirst_1_l3 k p_ q_ n_ 0 0 1 []
    (fun p_2 q_2 n_2 best1 bestBy1 k_1 out1 =>
      r0 out1)
    r0

/-- loop.example/g01297/impl.bestOfFirst -/
def impl_bestOfFirst {α : Type} (k : Nat) (p_ : Int) (q_ : Int) (n_ : Int) (r0 : (List (Int × Int)) → Option α) : Option α :=
  impl_records_3F_impl_bestOfFirst_1 k p_ q_ n_ fun v =>
  r0 v

/-- loop.example/g01297/impl.BestOfFirst -/
def impl_BestOfFirst {α : Type} (k : Nat) (p_ : Int) (q_ : Int) (n_ : Int) (r0 : Int → Option α) (r1 : (List (Int × Int)) → Int → Option α) : Option α :=
  impl_bestOk k p_ q_ n_ fun v =>
  bif (!v) then
    r0 2
  else
    impl_bestOfFirst k p_ q_ n_ fun v1 =>
    r1 v1 0

/-- loop.example/g01297/laws.eqPointS -/
def laws_eqPointS_0N_1N {α : Type} (k : Nat)  (r0 : Bool → Option α) : Option α :=
  r0 true

/-- loop.example/g01297/laws.markPointS -/
def laws_markPointS_0N {α : Type} (k : Nat) (k_ : Int) (r0 : Int → Option α) : Option α :=
  r0 k_

/-- loop.example/g01297/laws.heldPointS -/
def laws_heldPointS_0N {α : Type} (k : Nat) (k_ : Int) (r0 : Int → Option α) : Option α :=
  r0 k_

def laws_eqPointS_1N_l4 {α : Type} : Nat → Int → (List (Int × Int)) → (Int → (List (Int × Int)) → Option α) → (Bool → Option α) → Option α
  | 0, _, _, _, _ => none
  | k + 1, i, a1, b0, r0 =>
    bif decide (i < (((List.length a1) : Nat) : Int)) then
      bif (decide (0 ≤ i) && decide (i < (((List.length a1) : Nat) : Int))) then
        (a1[i.toNat]?).bind fun e_ =>
        none
      else
        none
    else
      b0 i a1

/-- loop.example/g01297/laws.eqPointS -/
def laws_eqPointS_1N {α : Type} (k : Nat) (a : List (Int × Int)) (r0 : Bool → Option α) : Option α :=
  bif (!decide ((((List.length a) : Nat) : Int) = 0)) then
    r0 false
  else
    laws_eqPointS_1N_l4 k 0 a
      (fun i1 a2 =>
        r0 true)
      r0

def laws_markPointS_l2 {α : Type} : Nat → Int → Int → (List (Int × Int)) → (Int → Int → (List (Int × Int)) → Option α) → (Int → (List (Int × Int)) → Option α) → Option α
  | 0, _, _, _, _, _ => none
  | k + 1, k_1, i, a1, b0, r0 =>
    bif decide (i < (((List.length a1) : Nat) : Int)) then
      bif (decide (0 ≤ i) && decide (i < (((List.length a1) : Nat) : Int))) then
        (a1[i.toNat]?).bind fun e_ =>
        bif (decide (0 ≤ i) && decide (i < (((List.length (List.set a1 i.toNat (k_1, e_.2))) : Nat) : Int))) then
          ((List.set a1 i.toNat (k_1, e_.2))[i.toNat]?).bind fun e_1 =>
          laws_markPointS_l2 k (w64 ((w64 (k_1 + 1)) + 1)) (w64 (i + 1)) (List.set (List.set a1 i.toNat (k_1, e_.2)) i.toNat (e_1.1, (w64 (k_1 + 1)))) b0 r0
        else
          none
      else
        none
    else
      b0 k_1 i a1

/-- loop.example/g01297/laws.markPointS -/
def laws_markPointS {α : Type} (k : Nat) (a : List (Int × Int)) (k_ : Int) (r0 : Int → (List (Int × Int)) → Option α) : Option α :=
  laws_markPointS_l2 k k_ 0 a
    (fun k_2 i1 a2 =>
      r0 k_2 a2)
    r0

def laws_heldPointS_l2 {α : Type} : Nat → Int → Int → (List (Int × Int)) → (Int → Int → (List (Int × Int)) → Option α) → (Int → Option α) → Option α
  | 0, _, _, _, _, _ => none
  | k + 1, k_1, i, a1, b0, r0 =>
    bif decide (i < (((List.length a1) : Nat) : Int)) then
      bif (decide (0 ≤ i) && decide (i < (((List.length a1) : Nat) : Int))) then
        (a1[i.toNat]?).bind fun e_ =>
        bif (!decide (e_.1 = k_1)) then
          r0 (-1)
        else
        bif (decide (0 ≤ i) && decide (i < (((List.length a1) : Nat) : Int))) then
          (a1[i.toNat]?).bind fun e_1 =>
          bif (!decide (e_1.2 = (w64 (k_1 + 1)))) then
            r0 (-1)
          else
            laws_heldPointS_l2 k (w64 ((w64 (k_1 + 1)) + 1)) (w64 (i + 1)) a1 b0 r0
        else
          none
      else
        none
    else
      b0 k_1 i a1

/-- loop.example/g01297/laws.heldPointS -/
def laws_heldPointS {α : Type} (k : Nat) (a : List (Int × Int)) (k_ : Int) (r0 : Int → Option α) : Option α :=
  laws_heldPointS_l2 k k_ 0 a
    (fun k_2 i1 a2 =>
      r0 k_2)
    r0

/-- loop.example/g01297/laws.eqPointS -/
def laws_eqPointS_0N {α : Type} (k : Nat) (b_ : List (Int × Int)) (r0 : Bool → Option α) : Option α :=
  bif (!decide (0 = (((List.length b_) : Nat) : Int))) then
    r0 false
  else
    r0 true

/-- loop.example/g01297/laws.eqPoint -/
def laws_eqPoint {α : Type} (k : Nat) (a : Int) (a1 : Int) (b_ : Int) (b_1 : Int) (r0 : Bool → Option α) : Option α :=
  bif (!decide (a = b_)) then
    r0 false
  else
  bif (!decide (a1 = b_1)) then
    r0 false
  else
    r0 true

def laws_eqPointS_l4 {α : Type} : Nat → Int → (List (Int × Int)) → (List (Int × Int)) → (Int → (List (Int × Int)) → (List (Int × Int)) → Option α) → (Bool → Option α) → Option α
  | 0, _, _, _, _, _ => none
  | k + 1, i, a1, b_1, b0, r0 =>
    bif decide (i < (((List.length a1) : Nat) : Int)) then
      bif (decide (0 ≤ i) && decide (i < (((List.length a1) : Nat) : Int))) then
        (a1[i.toNat]?).bind fun e_ =>
        bif (decide (0 ≤ i) && decide (i < (((List.length b_1) : Nat) : Int))) then
          (b_1[i.toNat]?).bind fun e_1 =>
          laws_eqPoint k e_.1 e_.2 e_1.1 e_1.2 fun v =>
          bif (!v) then
            r0 false
          else
            laws_eqPointS_l4 k (w64 (i + 1)) a1 b_1 b0 r0
        else
          none
      else
        none
    else
      b0 i a1 b_1

/-- loop.example/g01297/laws.eqPointS -/
def laws_eqPointS {α : Type} (k : Nat) (a : List (Int × Int)) (b_ : List (Int × Int)) (r0 : Bool → Option α) : Option α :=
  bif (!decide ((((List.length a) : Nat) : Int) = (((List.length b_) : Nat) : Int))) then
    r0 false
  else
    laws_eqPointS_l4 k 0 a b_
      (fun i1 a2 b_2 =>
        r0 true)
      r0

/-- loop.example/g01297/laws.FnExactBestOfFirst -/
def laws_FnExactBestOfFirst {α : Type} (k : Nat) (aP : Int) (aQ : Int) (aN : Int) (r0 : Bool → Option α) : Option α :=
  spec_BestOfFirst k aP aQ aN
    (fun v =>
      impl_BestOfFirst k aP aQ aN
        (fun v1 =>
          laws_eqPointS_0N_1N k fun v2 =>
          bif (!v2) then
            r0 false
          else
          bif (!decide (v1 = v)) then
            r0 false
          else
            laws_markPointS_0N k 1 fun v3 =>
            laws_heldPointS_0N k 1 fun v4 =>
            bif decide (v4 < 0) then
              r0 false
            else
            bif (!decide (v4 = v3)) then
              r0 false
            else
              impl_BestOfFirst k aP aQ aN
                (fun v5 =>
                  laws_eqPointS_0N_1N k fun v6 =>
                  bif (!v6) then
                    r0 false
                  else
                  bif (!decide (v5 = v)) then
                    r0 false
                  else
                    laws_heldPointS_0N k 1 fun v7 =>
                    bif decide (v7 < 0) then
                      r0 false
                    else
                    bif (!decide (v7 = v3)) then
                      r0 false
                    else
                      r0 true)
                (fun v8 v9 =>
                  laws_eqPointS_1N k v8 fun v10 =>
                  bif (!v10) then
                    r0 false
                  else
                  bif (!decide (v9 = v)) then
                    r0 false
                  else
                    laws_heldPointS_0N k 1 fun v11 =>
                    bif decide (v11 < 0) then
                      r0 false
                    else
                    bif (!decide (v11 = v3)) then
                      r0 false
                    else
                      r0 true))
        (fun v12 v13 =>
          laws_eqPointS_1N k v12 fun v14 =>
          bif (!v14) then
            r0 false
          else
          bif (!decide (v13 = v)) then
            r0 false
          else
            laws_markPointS k v12 1 fun v15 v16 =>
            laws_heldPointS k v16 1 fun v17 =>
            bif decide (v17 < 0) then
              r0 false
            else
            bif (!decide (v17 = v15)) then
              r0 false
            else
              impl_BestOfFirst k aP aQ aN
                (fun v18 =>
                  laws_eqPointS_0N_1N k fun v19 =>
                  bif (!v19) then
                    r0 false
                  else
                  bif (!decide (v18 = v)) then
                    r0 false
                  else
                    laws_heldPointS k v16 1 fun v20 =>
                    bif decide (v20 < 0) then
                      r0 false
                    else
                    bif (!decide (v20 = v15)) then
                      r0 false
                    else
                      r0 true)
                (fun v21 v22 =>
                  laws_eqPointS_1N k v21 fun v23 =>
                  bif (!v23) then
                    r0 false
                  else
                  bif (!decide (v22 = v)) then
                    r0 false
                  else
                    laws_heldPointS k v16 1 fun v24 =>
                    bif decide (v24 < 0) then
                      r0 false
                    else
                    bif (!decide (v24 = v15)) then
                      r0 false
                    else
                      r0 true)))
    (fun v25 v26 =>
      impl_BestOfFirst k aP aQ aN
        (fun v27 =>
          laws_eqPointS_0N k v25 fun v28 =>
          bif (!v28) then
            r0 false
          else
          bif (!decide (v27 = v26)) then
            r0 false
          else
            laws_markPointS_0N k 1 fun v29 =>
            laws_heldPointS_0N k 1 fun v30 =>
            bif decide (v30 < 0) then
              r0 false
            else
            bif (!decide (v30 = v29)) then
              r0 false
            else
              impl_BestOfFirst k aP aQ aN
                (fun v31 =>
                  laws_eqPointS_0N k v25 fun v32 =>
                  bif (!v32) then
                    r0 false
                  else
                  bif (!decide (v31 = v26)) then
                    r0 false
                  else
                    laws_heldPointS_0N k 1 fun v33 =>
                    bif decide (v33 < 0) then
                      r0 false
                    else
                    bif (!decide (v33 = v29)) then
                      r0 false
                    else
                      r0 true)
                (fun v34 v35 =>
                  laws_eqPointS k v34 v25 fun v36 =>
                  bif (!v36) then
                    r0 false
                  else
                  bif (!decide (v35 = v26)) then
                    r0 false
                  else
                    laws_heldPointS_0N k 1 fun v37 =>
                    bif decide (v37 < 0) then
                      r0 false
                    else
                    bif (!decide (v37 = v29)) then
                      r0 false
                    else
                      r0 true))
        (fun v38 v39 =>
          laws_eqPointS k v38 v25 fun v40 =>
          bif (!v40) then
            r0 false
          else
          bif (!decide (v39 = v26)) then
            r0 false
          else
            laws_markPointS k v38 1 fun v41 v42 =>
            laws_heldPointS k v42 1 fun v43 =>
            bif decide (v43 < 0) then
              r0 false
            else
            bif (!decide (v43 = v41)) then
              r0 false
            else
              impl_BestOfFirst k aP aQ aN
                (fun v44 =>
                  laws_eqPointS_0N k v25 fun v45 =>
                  bif (!v45) then
                    r0 false
                  else
                  bif (!decide (v44 = v26)) then
                    r0 false
                  else
                    laws_heldPointS k v42 1 fun v46 =>
                    bif decide (v46 < 0) then
                      r0 false
                    else
                    bif (!decide (v46 = v41)) then
                      r0 false
                    else
                      r0 true)
                (fun v47 v48 =>
                  laws_eqPointS k v47 v25 fun v49 =>
                  bif (!v49) then
                    r0 false
                  else
                  bif (!decide (v48 = v26)) then
                    r0 false
                  else
                    laws_heldPointS k v42 1 fun v50 =>
                    bif decide (v50 < 0) then
                      r0 false
                    else
                    bif (!decide (v50 = v41)) then
                      r0 false
                    else
                      r0 true)))

end Go.Sh
