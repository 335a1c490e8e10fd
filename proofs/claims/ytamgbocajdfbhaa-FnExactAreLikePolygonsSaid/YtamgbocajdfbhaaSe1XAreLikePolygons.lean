/- The program's functions hold to their readings without memory: printed by a program of ours. -/
import Derived.Test.YtamgbocajdfbhaaSeXAreLikePolygons
namespace Go.Proofs.Ytamgbocajdfbhaa
open Go Go.Ev Go.Sh Go.Proofs

/-! loop.example/g01297/laws.szPointS -/
abbrev h4_x {α : Type}  : Nat → Ctx α := ctxS M eqs jt0 [] []
def h4_b {α : Type}  (_ : Nat) (a : List (Int × Int)) (left : Int) (r0 : Int → Option α) : Option α :=
  bif decide ((w64 (left - (((List.length a) : Nat) : Int))) < 0) then
    r0 (-1)
  else
    r0 (w64 (left - (((List.length a) : Nat) : Int)))
theorem h4_g {α : Type}  (n : Nat) : GenF (α := α) Try.prog Try.f4 S0 (h4_x n) n (h4_b) := by intro _ _ _; kernel_rfl
theorem h4_good {α : Type} : ∀ n, GoodFn (α := α) Try.prog 4 (byShape S0.sh (callS S0 laws_szPointS n)) := good_of Try.func4 (by kernel_rfl) (by kernel_rfl) (by kernel_rfl) eqs_ok (fun n => h4_g n) (by delta h4_b laws_szPointS; rfl) allN allN

/-! loop.example/g01297/laws.toPoint -/
abbrev h11_x {α : Type}  : Nat → Ctx α := ctxS M eqs jt0 [] []
def h11_b {α : Type}  (_ : Nat) (a : Int) (a1 : Int) (r0 : Int → Int → Option α) : Option α :=
  r0 a a1
theorem h11_g {α : Type}  (n : Nat) : GenF (α := α) Try.prog Try.f11 S1 (h11_x n) n (h11_b) := by intro _ _ _; kernel_rfl
theorem h11_good {α : Type} : ∀ n, GoodFn (α := α) Try.prog 11 (byShape S1.sh (callS S1 laws_toPoint n)) := good_of Try.func11 (by kernel_rfl) (by kernel_rfl) (by kernel_rfl) eqs_ok (fun n => h11_g n) (by delta h11_b laws_toPoint; rfl) allN allN

/-! loop.example/g01297/laws.toPointS -/
def h6_t3 : Tpl := ⟨(.sl 0 :: (.any :: (.any :: (.sl 448 :: (.int .i64 :: (anyN 18 [])))))), [(0, .rows 0 33 .pt), (448, .rows 2 34 .pt)], [], false⟩
def h6_p3 : PcS := loopS [.int, .rows .pt, .rows .pt] [0]
abbrev h6_x {α : Type} (F0 : T0 α) (G3 : T1 α) : Nat → Ctx α := ctxS M eqs jt0 [⟨11, S1, F0⟩] [lpT 3 h6_t3 h6_p3 R2 G3]
def h6_b3 {α : Type} (F0 : T0 α) (G3 : T1 α) (k : Nat) (i : Int) (a1 : List (Int × Int)) (out : List (Int × Int)) (b0 : Int → (List (Int × Int)) → (List (Int × Int)) → Option α) (r0 : (List (Int × Int)) → Option α) : Option α :=
  bif decide (i < (((List.length a1) : Nat) : Int)) then
    bif (decide (0 ≤ i) && decide (i < (((List.length a1) : Nat) : Int))) then
      (a1[i.toNat]?).bind fun e_ =>
      F0 k e_.1 e_.2 fun v v1 =>
      bif (decide (0 ≤ i) && decide (i < (((List.length out) : Nat) : Int))) then
        (out[i.toNat]?).bind fun _ =>
        G3 k (w64 (i + 1)) a1 (List.set out i.toNat (v, v1)) b0 r0
      else
        none
    else
      none
  else
    b0 i a1 out
theorem h6_g3 {α : Type} (F0 : T0 α) (G3 : T1 α) (n : Nat) : GenL (α := α) Try.prog Try.f6 S2 (h6_x F0 G3 n) 3 h6_t3 h6_p3 n G3 (h6_b3 F0 G3) := by intro _ _ _ _ _; kernel_rfl
def h6_b {α : Type} (G3 : T1 α) (k : Nat) (a : List (Int × Int)) (r0 : (List (Int × Int)) → Option α) : Option α :=
  bif (decide (0 ≤ (((List.length a) : Nat) : Int)) && decide ((((List.length a) : Nat) : Int) ≤ (big : Int))) then
    G3 k 0 a (List.replicate (((List.length a) : Nat) : Int).toNat (0, 0))
      (fun _ _ out1 =>
        r0 out1)
      r0
  else
    none
theorem h6_g {α : Type} (F0 : T0 α) (G3 : T1 α) (n : Nat) : GenF (α := α) Try.prog Try.f6 S2 (h6_x F0 G3 n) n (h6_b G3) := by intro _ _; kernel_rfl
theorem h6_good {α : Type} : ∀ n, GoodFn (α := α) Try.prog 6 (byShape S2.sh (callS S2 laws_toPointS n)) := good_of Try.func6 (by kernel_rfl) (by kernel_rfl) (by kernel_rfl) eqs_ok (fun n => h6_g laws_toPoint laws_toPointS_l3 n) (by delta h6_b laws_toPointS; rfl) (allC h11_good allN) (allC (loop_fine (by kernel_rfl) (fun n => by delta h6_b3; funext _ _ _ _ _; exact (laws_toPointS_l3.eq_2 ..).symm) (fun n => h6_g3 laws_toPoint laws_toPointS_l3 n)) allN)

/-! loop.example/g01297/spec.l01In -/
abbrev h32_x {α : Type}  : Nat → Ctx α := ctxS M eqs jt0 [] []
def h32_b {α : Type}  (_ : Nat) (n_ : Int) (low : Int) (high : Int) (r0 : Bool → Option α) : Option α :=
  bif decide (low ≤ n_) then
    r0 (decide (n_ ≤ high))
  else
    r0 false
theorem h32_g {α : Type}  (n : Nat) : GenF (α := α) Try.prog Try.f32 S3 (h32_x n) n (h32_b) := by intro _ _ _ _; kernel_rfl
theorem h32_good {α : Type} : ∀ n, GoodFn (α := α) Try.prog 32 (byShape S3.sh (callS S3 spec_l01In n)) := good_of Try.func32 (by kernel_rfl) (by kernel_rfl) (by kernel_rfl) eqs_ok (fun n => h32_g n) (by delta h32_b spec_l01In; rfl) allN allN

/-! loop.example/g01297/spec.l01Fits -/
abbrev h59_x {α : Type} (F0 : T2 α) : Nat → Ctx α := ctxS M eqs jt0 [⟨32, S3, F0⟩] []
def h59_b {α : Type} (F0 : T2 α) (k : Nat) (x : Int) (r0 : Bool → Option α) : Option α :=
  F0 k x (-1000000) 1000000 fun v =>
  r0 v
theorem h59_g {α : Type} (F0 : T2 α) (n : Nat) : GenF (α := α) Try.prog Try.f59 S4 (h59_x F0 n) n (h59_b F0) := by intro _ _; kernel_rfl
theorem h59_good {α : Type} : ∀ n, GoodFn (α := α) Try.prog 59 (byShape S4.sh (callS S4 spec_l01Fits n)) := good_of Try.func59 (by kernel_rfl) (by kernel_rfl) (by kernel_rfl) eqs_ok (fun n => h59_g spec_l01In n) (by delta h59_b spec_l01Fits; rfl) (allC h32_good allN) allN

/-! loop.example/g01297/spec.l01Is -/
abbrev h33_x {α : Type} (F0 : T3 α) : Nat → Ctx α := ctxS M eqs jt0 [⟨59, S4, F0⟩] []
def h33_b {α : Type} (F0 : T3 α) (k : Nat) (a : Int) (a1 : Int) (r0 : Bool → Option α) : Option α :=
  F0 k a fun v =>
  bif v then
    F0 k a1 fun v1 =>
    r0 v1
  else
    r0 false
theorem h33_g {α : Type} (F0 : T3 α) (n : Nat) : GenF (α := α) Try.prog Try.f33 S5 (h33_x F0 n) n (h33_b F0) := by intro _ _ _; kernel_rfl
theorem h33_good {α : Type} : ∀ n, GoodFn (α := α) Try.prog 33 (byShape S5.sh (callS S5 spec_l01Is n)) := good_of Try.func33 (by kernel_rfl) (by kernel_rfl) (by kernel_rfl) eqs_ok (fun n => h33_g spec_l01Fits n) (by delta h33_b spec_l01Is; rfl) (allC h59_good allN) allN

/-! loop.example/g01297/spec.l01Plus -/
abbrev h36_x {α : Type}  : Nat → Ctx α := ctxS M eqs jt0 [] []
def h36_b {α : Type}  (_ : Nat) (a : Int) (a1 : Int) (b_ : Int) (b_1 : Int) (k_ : Int) (r0 : Int → Int → Option α) : Option α :=
  r0 (w64 (a + (w64 (k_ * b_)))) (w64 (a1 + (w64 (k_ * b_1))))
theorem h36_g {α : Type}  (n : Nat) : GenF (α := α) Try.prog Try.f36 S6 (h36_x n) n (h36_b) := by intro _ _ _ _ _ _; kernel_rfl
theorem h36_good {α : Type} : ∀ n, GoodFn (α := α) Try.prog 36 (byShape S6.sh (callS S6 spec_l01Plus n)) := good_of Try.func36 (by kernel_rfl) (by kernel_rfl) (by kernel_rfl) eqs_ok (fun n => h36_g n) (by delta h36_b spec_l01Plus; rfl) allN allN

/-! loop.example/g01297/spec.l01Det -/
abbrev h60_x {α : Type}  : Nat → Ctx α := ctxS M eqs jt0 [] []
def h60_b {α : Type}  (_ : Nat) (a : Int) (a1 : Int) (b_ : Int) (b_1 : Int) (r0 : Int → Option α) : Option α :=
  r0 (w64 ((w64 (a * b_1)) - (w64 (a1 * b_))))
theorem h60_g {α : Type}  (n : Nat) : GenF (α := α) Try.prog Try.f60 S7 (h60_x n) n (h60_b) := by intro _ _ _ _ _; kernel_rfl
theorem h60_good {α : Type} : ∀ n, GoodFn (α := α) Try.prog 60 (byShape S7.sh (callS S7 spec_l01Det n)) := good_of Try.func60 (by kernel_rfl) (by kernel_rfl) (by kernel_rfl) eqs_ok (fun n => h60_g n) (by delta h60_b spec_l01Det; rfl) allN allN

/-! loop.example/g01297/spec.l09Side -/
abbrev h34_x {α : Type} (F0 : T4 α) (F1 : T5 α) : Nat → Ctx α := ctxS M eqs jt0 [⟨36, S6, F0⟩, ⟨60, S7, F1⟩] []
def h34_b {α : Type} (F0 : T4 α) (F1 : T5 α) (k : Nat) (a : Int) (a1 : Int) (b_ : Int) (b_1 : Int) (c : Int) (c1 : Int) (r0 : Int → Option α) : Option α :=
  F0 k b_ b_1 a a1 (-1) fun v v1 =>
  F0 k c c1 b_ b_1 (-1) fun v2 v3 =>
  F1 k v v1 v2 v3 fun v4 =>
  r0 v4
theorem h34_g {α : Type} (F0 : T4 α) (F1 : T5 α) (n : Nat) : GenF (α := α) Try.prog Try.f34 S8 (h34_x F0 F1 n) n (h34_b F0 F1) := by intro _ _ _ _ _ _ _; kernel_rfl
theorem h34_good {α : Type} : ∀ n, GoodFn (α := α) Try.prog 34 (byShape S8.sh (callS S8 spec_l09Side n)) := good_of Try.func34 (by kernel_rfl) (by kernel_rfl) (by kernel_rfl) eqs_ok (fun n => h34_g spec_l01Plus spec_l01Det n) (by delta h34_b spec_l09Side; rfl) (allC h36_good (allC h60_good allN)) allN

/-! loop.example/g01297/spec.l09Half -/
abbrev h35_x {α : Type}  : Nat → Ctx α := ctxS M eqs jt0 [] []
def h35_b {α : Type}  (_ : Nat) (a : Int) (a1 : Int) (r0 : Int → Option α) : Option α :=
  bif decide (0 < a1) then
    r0 0
  else
  bif decide (a1 = 0) then
    bif decide (0 < a) then
      r0 0
    else
      r0 1
  else
    r0 1
theorem h35_g {α : Type}  (n : Nat) : GenF (α := α) Try.prog Try.f35 S9 (h35_x n) n (h35_b) := by intro _ _ _; kernel_rfl
theorem h35_good {α : Type} : ∀ n, GoodFn (α := α) Try.prog 35 (byShape S9.sh (callS S9 spec_l09Half n)) := good_of Try.func35 (by kernel_rfl) (by kernel_rfl) (by kernel_rfl) eqs_ok (fun n => h35_g n) (by delta h35_b spec_l09Half; rfl) allN allN

/-! loop.example/g01297/spec.l09Is -/
def h16_t6 : Tpl := ⟨(.sl 0 :: (.any :: (.any :: (.int .i64 :: (.int .i64 :: (.int .i64 :: (anyN 75 []))))))), [(0, .rows 0 34 .pt)], [], false⟩
def h16_p6 : PcS := loopS [.int, .int, .int, .rows .pt] [0]
abbrev h16_x {α : Type} (F0 : T2 α) (F1 : T6 α) (F2 : T7 α) (F3 : T4 α) (F4 : T8 α) (G6 : T9 α) : Nat → Ctx α := ctxS M eqs jt0 [⟨32, S3, F0⟩, ⟨33, S5, F1⟩, ⟨34, S8, F2⟩, ⟨36, S6, F3⟩, ⟨35, S9, F4⟩] [lpT 6 h16_t6 h16_p6 R3 G6]
def h16_b6 {α : Type} (F0 : T2 α) (F1 : T6 α) (F2 : T7 α) (F3 : T4 α) (F4 : T8 α) (G6 : T9 α) (k : Nat) (n_ : Int) (turns : Int) (i : Int) (list1 : List (Int × Int)) (b0 : Int → Int → Int → (List (Int × Int)) → Option α) (r0 : Bool → Option α) : Option α :=
  bif decide (i < n_) then
    bif (decide (0 ≤ i) && decide (i < (((List.length list1) : Nat) : Int))) then
      (list1[i.toNat]?).bind fun e_ =>
      bif decide (n_ = 0) then
        none
      else
      bif (decide (0 ≤ (Int.tmod (w64 (i + 1)) n_)) && decide ((Int.tmod (w64 (i + 1)) n_) < (((List.length list1) : Nat) : Int))) then
        (list1[(Int.tmod (w64 (i + 1)) n_).toNat]?).bind fun e_1 =>
        bif decide (n_ = 0) then
          none
        else
        bif (decide (0 ≤ (Int.tmod (w64 (i + 2)) n_)) && decide ((Int.tmod (w64 (i + 2)) n_) < (((List.length list1) : Nat) : Int))) then
          (list1[(Int.tmod (w64 (i + 2)) n_).toNat]?).bind fun e_2 =>
          F0 k e_.1 (-1000) 1000 fun v =>
          bif (!v) then
            r0 false
          else
            F0 k e_.2 (-1000) 1000 fun v1 =>
            bif (!v1) then
              r0 false
            else
              F1 k e_1.1 e_1.2 fun v2 =>
              bif (!v2) then
                r0 false
              else
                F1 k e_2.1 e_2.2 fun v3 =>
                bif (!v3) then
                  r0 false
                else
                  F2 k e_.1 e_.2 e_1.1 e_1.2 e_2.1 e_2.2 fun v4 =>
                  bif decide (v4 ≤ 0) then
                    r0 false
                  else
                    F3 k e_1.1 e_1.2 e_.1 e_.2 (-1) fun v5 v6 =>
                    F4 k v5 v6 fun v7 =>
                    bif decide (v7 = 1) then
                      F3 k e_2.1 e_2.2 e_1.1 e_1.2 (-1) fun v8 v9 =>
                      F4 k v8 v9 fun v10 =>
                      bif decide (v10 = 0) then
                        G6 k n_ (w64 (turns + 1)) (w64 (i + 1)) list1 b0 r0
                      else
                        G6 k n_ turns (w64 (i + 1)) list1 b0 r0
                    else
                      G6 k n_ turns (w64 (i + 1)) list1 b0 r0
        else
          none
      else
        none
    else
      none
  else
    b0 n_ turns i list1
theorem h16_g6 {α : Type} (F0 : T2 α) (F1 : T6 α) (F2 : T7 α) (F3 : T4 α) (F4 : T8 α) (G6 : T9 α) (n : Nat) : GenL (α := α) Try.prog Try.f16 S10 (h16_x F0 F1 F2 F3 F4 G6 n) 6 h16_t6 h16_p6 n G6 (h16_b6 F0 F1 F2 F3 F4 G6) := by intro _ _ _ _ _ _; kernel_rfl
def h16_b {α : Type} (G6 : T9 α) (k : Nat) (list : List (Int × Int)) (r0 : Bool → Option α) : Option α :=
  bif decide ((((List.length list) : Nat) : Int) < 3) then
    r0 false
  else
  bif decide (12 < (((List.length list) : Nat) : Int)) then
    r0 false
  else
    G6 k (((List.length list) : Nat) : Int) 0 0 list
      (fun _ turns1 _ _ =>
        r0 (decide (turns1 = 1)))
      r0
theorem h16_g {α : Type} (F0 : T2 α) (F1 : T6 α) (F2 : T7 α) (F3 : T4 α) (F4 : T8 α) (G6 : T9 α) (n : Nat) : GenF (α := α) Try.prog Try.f16 S10 (h16_x F0 F1 F2 F3 F4 G6 n) n (h16_b G6) := by intro _ _; kernel_rfl
theorem h16_good {α : Type} : ∀ n, GoodFn (α := α) Try.prog 16 (byShape S10.sh (callS S10 spec_l09Is n)) := good_of Try.func16 (by kernel_rfl) (by kernel_rfl) (by kernel_rfl) eqs_ok (fun n => h16_g spec_l01In spec_l01Is spec_l09Side spec_l01Plus spec_l09Half spec_l09Is_l6 n) (by delta h16_b spec_l09Is; rfl) (allC h32_good (allC h33_good (allC h34_good (allC h36_good (allC h35_good allN))))) (allC (loop_fine (by kernel_rfl) (fun n => by delta h16_b6; funext _ _ _ _ _ _; exact (spec_l09Is_l6.eq_2 ..).symm) (fun n => h16_g6 spec_l01In spec_l01Is spec_l09Side spec_l01Plus spec_l09Half spec_l09Is_l6 n)) allN)

/-! loop.example/g01297/spec.l09Code -/
abbrev h9_x {α : Type} (F0 : T10 α) : Nat → Ctx α := ctxS M eqs jt0 [⟨16, S10, F0⟩] []
def h9_b {α : Type} (F0 : T10 α) (k : Nat) (lists : List (Int × Int)) (lists1 : List (Int × Int)) (r0 : Int → Option α) : Option α :=
  F0 k lists fun v =>
  bif (!v) then
    r0 1
  else
    F0 k lists1 fun v1 =>
    bif (!v1) then
      r0 1
    else
      r0 0
theorem h9_g {α : Type} (F0 : T10 α) (n : Nat) : GenF (α := α) Try.prog Try.f9 S11 (h9_x F0 n) n (h9_b F0) := by intro _ _ _; kernel_rfl
theorem h9_good {α : Type} : ∀ n, GoodFn (α := α) Try.prog 9 (byShape S11.sh (callS S11 spec_l09Code_0M2 n)) := good_of Try.func9 (by kernel_rfl) (by kernel_rfl) (by kernel_rfl) eqs_ok (fun n => h9_g spec_l09Is n) (by delta h9_b spec_l09Code_0M2; rfl) (allC h16_good allN) allN

/-! loop.example/g01297/spec.l01Gcd -/
def h61_t1 : Tpl := ⟨(.int .i64 :: (.int .i64 :: (anyN 15 []))), [], [], false⟩
def h61_p1 : PcS := loopS [.int, .int] [0]
abbrev h61_x {α : Type} (G1 : T11 α) : Nat → Ctx α := ctxS M eqs jt0 [] [lpT 1 h61_t1 h61_p1 R0 G1]
def h61_b1 {α : Type} (G1 : T11 α) (k : Nat) (a1 : Int) (b_1 : Int) (b0 : Int → Int → Option α) (r0 : Int → Option α) : Option α :=
  bif (!decide (b_1 = 0)) then
    bif decide (b_1 = 0) then
      none
    else
      G1 k b_1 (Int.tmod a1 b_1) b0 r0
  else
    b0 a1 b_1
theorem h61_g1 {α : Type} (G1 : T11 α) (n : Nat) : GenL (α := α) Try.prog Try.f61 S12 (h61_x G1 n) 1 h61_t1 h61_p1 n G1 (h61_b1 G1) := by intro _ _ _ _; kernel_rfl
def h61_b {α : Type} (G1 : T11 α) (k : Nat) (a : Int) (b_ : Int) (r0 : Int → Option α) : Option α :=
  G1 k a b_
    (fun a2 _ =>
      r0 (max a2 (w64 (0 - a2))))
    r0
theorem h61_g {α : Type} (G1 : T11 α) (n : Nat) : GenF (α := α) Try.prog Try.f61 S12 (h61_x G1 n) n (h61_b G1) := by intro _ _ _; kernel_rfl
theorem h61_good {α : Type} : ∀ n, GoodFn (α := α) Try.prog 61 (byShape S12.sh (callS S12 spec_l01Gcd n)) := good_of Try.func61 (by kernel_rfl) (by kernel_rfl) (by kernel_rfl) eqs_ok (fun n => h61_g spec_l01Gcd_l1 n) (by delta h61_b spec_l01Gcd; rfl) allN (allC (loop_fine (by kernel_rfl) (fun n => by delta h61_b1; funext _ _ _ _; exact (spec_l01Gcd_l1.eq_2 ..).symm) (fun n => h61_g1 spec_l01Gcd_l1 n)) allN)

/-! loop.example/g01297/spec.l01Part -/
abbrev h37_x {α : Type} (F0 : T8 α) : Nat → Ctx α := ctxS M eqs jt0 [⟨61, S12, F0⟩] []
def h37_b {α : Type} (F0 : T8 α) (k : Nat) (a : Int) (a1 : Int) (r0 : Int → Int → Option α) : Option α :=
  F0 k a a1 fun v =>
  bif decide (v = 0) then
    none
  else
  bif decide (v = 0) then
    none
  else
    r0 (w64 (Int.tdiv a v)) (w64 (Int.tdiv a1 v))
theorem h37_g {α : Type} (F0 : T8 α) (n : Nat) : GenF (α := α) Try.prog Try.f37 S1 (h37_x F0 n) n (h37_b F0) := by intro _ _ _; kernel_rfl
theorem h37_good {α : Type} : ∀ n, GoodFn (α := α) Try.prog 37 (byShape S1.sh (callS S1 spec_l01Part n)) := good_of Try.func37 (by kernel_rfl) (by kernel_rfl) (by kernel_rfl) eqs_ok (fun n => h37_g spec_l01Gcd n) (by delta h37_b spec_l01Part; rfl) (allC h61_good allN) allN

/-! loop.example/g01297/spec.l01Rest -/
abbrev h62_x {α : Type}  : Nat → Ctx α := ctxS M eqs jt0 [] []
def h62_b {α : Type}  (_ : Nat) (n_ : Int) (x : Int) (r0 : Int → Option α) : Option α :=
  bif decide (n_ = 0) then
    none
  else
  bif decide (n_ = 0) then
    none
  else
    r0 (Int.tmod (w64 ((Int.tmod x n_) + n_)) n_)
theorem h62_g {α : Type}  (n : Nat) : GenF (α := α) Try.prog Try.f62 S12 (h62_x n) n (h62_b) := by intro _ _ _; kernel_rfl
theorem h62_good {α : Type} : ∀ n, GoodFn (α := α) Try.prog 62 (byShape S12.sh (callS S12 spec_l01Rest n)) := good_of Try.func62 (by kernel_rfl) (by kernel_rfl) (by kernel_rfl) eqs_ok (fun n => h62_g n) (by delta h62_b spec_l01Rest; rfl) allN allN

/-! loop.example/g01297/spec.l01Base -/
def h38_t5 : Tpl := ⟨(.any :: (.ptr 64 0 0 :: (.ptr 128 0 0 :: (.int .i64 :: (.int .i64 :: (.int .i64 :: (.int .i64 :: (.int .i64 :: (anyN 50 []))))))))), [(64, .ints 2 34 .i64 2), (128, .ints 2 34 .i64 2)], [], false⟩
def h38_p5 : PcS := loopS [.int, .int, .int, .int, .int, .int, .int, .int, .int] [0]
abbrev h38_x {α : Type} (F0 : T8 α) (G5 : T12 α) : Nat → Ctx α := ctxS M eqs jt0 [⟨62, S12, F0⟩] [lpT 5 h38_t5 h38_p5 R1 G5]
def h38_b5 {α : Type} (G5 : T12 α) (k : Nat) (n_ : Int) (x : Int) (before : Int) (rest : Int) (next : Int) (a2 : Int) (a3 : Int) (x1 : Int) (x2 : Int) (b0 : Int → Int → Int → Int → Int → Int → Int → Int → Int → Option α) (r0 : Int → Int → Option α) : Option α :=
  bif (!decide (next = 0)) then
    bif decide (next = 0) then
      none
    else
      G5 k n_ before (w64 (x - (w64 ((w64 (Int.tdiv rest next)) * before)))) next (w64 (rest - (w64 ((w64 (Int.tdiv rest next)) * next)))) a2 a3 x1 x2 b0 r0
  else
    b0 n_ x before rest next a2 a3 x1 x2
theorem h38_g5 {α : Type} (F0 : T8 α) (G5 : T12 α) (n : Nat) : GenL (α := α) Try.prog Try.f38 S1 (h38_x F0 G5 n) 5 h38_t5 h38_p5 n G5 (h38_b5 G5) := by intro _ _ _ _ _ _ _ _ _ _ _; kernel_rfl
def h38_b {α : Type} (F0 : T8 α) (G5 : T12 α) (k : Nat) (a : Int) (a1 : Int) (r0 : Int → Int → Option α) : Option α :=
  bif decide (a = 0) then
    r0 (w64 (0 - a1)) 0
  else
    F0 k (max a (w64 (0 - a))) a1 fun v =>
    G5 k (max a (w64 (0 - a))) 1 0 v (max a (w64 (0 - a))) a a1 0 0
      (fun n_1 x3 _ _ _ a4 a5 _ _ =>
        F0 k n_1 (w64 (0 - x3)) fun v1 =>
        bif decide (a4 = 0) then
          none
        else
          r0 v1 (w64 (Int.tdiv (w64 (1 + (w64 (a5 * v1)))) a4)))
      r0
theorem h38_g {α : Type} (F0 : T8 α) (G5 : T12 α) (n : Nat) : GenF (α := α) Try.prog Try.f38 S1 (h38_x F0 G5 n) n (h38_b F0 G5) := by intro _ _ _; kernel_rfl
theorem h38_good {α : Type} : ∀ n, GoodFn (α := α) Try.prog 38 (byShape S1.sh (callS S1 spec_l01Base n)) := good_of Try.func38 (by kernel_rfl) (by kernel_rfl) (by kernel_rfl) eqs_ok (fun n => h38_g spec_l01Rest spec_l01Base_l5 n) (by delta h38_b spec_l01Base; rfl) (allC h62_good allN) (allC (loop_fine (by kernel_rfl) (fun n => by delta h38_b5; funext _ _ _ _ _ _ _ _ _ _ _; exact (spec_l01Base_l5.eq_2 ..).symm) (fun n => h38_g5 spec_l01Rest spec_l01Base_l5 n)) allN)

/-! loop.example/g01297/spec.l01Apply -/
abbrev h39_x {α : Type}  : Nat → Ctx α := ctxS M eqs jt0 [] []
def h39_b {α : Type}  (_ : Nat) (m : Int) (m1 : Int) (m2 : Int) (m3 : Int) (a : Int) (a1 : Int) (r0 : Int → Int → Option α) : Option α :=
  r0 (w64 ((w64 (m * a)) + (w64 (m1 * a1)))) (w64 ((w64 (m2 * a)) + (w64 (m3 * a1))))
theorem h39_g {α : Type}  (n : Nat) : GenF (α := α) Try.prog Try.f39 S13 (h39_x n) n (h39_b) := by intro _ _ _ _ _ _ _; kernel_rfl
theorem h39_good {α : Type} : ∀ n, GoodFn (α := α) Try.prog 39 (byShape S13.sh (callS S13 spec_l01Apply n)) := good_of Try.func39 (by kernel_rfl) (by kernel_rfl) (by kernel_rfl) eqs_ok (fun n => h39_g n) (by delta h39_b spec_l01Apply; rfl) allN allN

/-! loop.example/g01297/spec.l01Floor -/
abbrev h40_x {α : Type}  : Nat → Ctx α := ctxS M eqs jt0 [] []
def h40_b {α : Type}  (_ : Nat) (p_ : Int) (q_ : Int) (r0 : Int → Option α) : Option α :=
  bif decide (q_ = 0) then
    none
  else
  bif decide (q_ = 0) then
    none
  else
  bif (!decide ((Int.tmod p_ q_) = 0)) then
    bif (!(decide (p_ < 0) == decide (q_ < 0))) then
      r0 (w64 ((w64 (Int.tdiv p_ q_)) - 1))
    else
      r0 (w64 (Int.tdiv p_ q_))
  else
    r0 (w64 (Int.tdiv p_ q_))
theorem h40_g {α : Type}  (n : Nat) : GenF (α := α) Try.prog Try.f40 S12 (h40_x n) n (h40_b) := by intro _ _ _; kernel_rfl
theorem h40_good {α : Type} : ∀ n, GoodFn (α := α) Try.prog 40 (byShape S12.sh (callS S12 spec_l01Floor n)) := good_of Try.func40 (by kernel_rfl) (by kernel_rfl) (by kernel_rfl) eqs_ok (fun n => h40_g n) (by delta h40_b spec_l01Floor; rfl) allN allN

/-! loop.example/g01297/spec.l01Times -/
abbrev h41_x {α : Type}  : Nat → Ctx α := ctxS M eqs jt0 [] []
def h41_b {α : Type}  (_ : Nat) (m : Int) (m1 : Int) (m2 : Int) (m3 : Int) (n_ : Int) (n_1 : Int) (n_2 : Int) (n_3 : Int) (r0 : Int → Int → Int → Int → Option α) : Option α :=
  r0 (w64 ((w64 (m * n_)) + (w64 (m1 * n_2)))) (w64 ((w64 (m * n_1)) + (w64 (m1 * n_3)))) (w64 ((w64 (m2 * n_)) + (w64 (m3 * n_2)))) (w64 ((w64 (m2 * n_1)) + (w64 (m3 * n_3))))
theorem h41_g {α : Type}  (n : Nat) : GenF (α := α) Try.prog Try.f41 S14 (h41_x n) n (h41_b) := by intro _ _ _ _ _ _ _ _ _; kernel_rfl
theorem h41_good {α : Type} : ∀ n, GoodFn (α := α) Try.prog 41 (byShape S14.sh (callS S14 spec_l01Times n)) := good_of Try.func41 (by kernel_rfl) (by kernel_rfl) (by kernel_rfl) eqs_ok (fun n => h41_g n) (by delta h41_b spec_l01Times; rfl) allN allN

/-! loop.example/g01297/spec.l09Frame -/
def h17_t14 : Tpl := ⟨(.sl 0 :: (.any :: (.any :: (.ptr 192 0 0 :: (anyN 4 (.ptr 512 0 0 :: (.any :: (.any :: (.sl 4928 :: (.int .i64 :: (anyN 83 []))))))))))), [(0, .rows 0 34 .pt), (192, .ints 2 34 .i64 2), (512, .ints 2 59 .i64 4), (4928, .rows 2 34 .pt)], [], false⟩
def h17_p14 : PcS := loopS [.int, .rows .pt, .int, .int, .int, .int, .int, .int, .rows .pt] [0]
abbrev h17_x {α : Type} (F0 : T4 α) (F1 : T0 α) (F2 : T0 α) (F3 : T13 α) (F4 : T8 α) (F5 : T14 α) (G14 : T15 α) : Nat → Ctx α := ctxS M eqs jt0 [⟨36, S6, F0⟩, ⟨37, S1, F1⟩, ⟨38, S1, F2⟩, ⟨39, S13, F3⟩, ⟨40, S12, F4⟩, ⟨41, S14, F5⟩] [lpT 14 h17_t14 h17_p14 R2 G14]
def h17_b14 {α : Type} (F0 : T4 α) (F3 : T13 α) (G14 : T15 α) (k : Nat) (i : Int) (list1 : List (Int × Int)) (a : Int) (a1 : Int) (m : Int) (m1 : Int) (m2 : Int) (m3 : Int) (out : List (Int × Int)) (b0 : Int → (List (Int × Int)) → Int → Int → Int → Int → Int → Int → (List (Int × Int)) → Option α) (r0 : (List (Int × Int)) → Option α) : Option α :=
  bif decide (i < (((List.length list1) : Nat) : Int)) then
    bif (decide (0 ≤ i) && decide (i < (((List.length list1) : Nat) : Int))) then
      (list1[i.toNat]?).bind fun e_3 =>
      F0 k e_3.1 e_3.2 a a1 (-1) fun v15 v16 =>
      F3 k m m1 m2 m3 v15 v16 fun v17 v18 =>
      bif decide (((List.length out) + 1) ≤ big) then
        G14 k (w64 (i + 1)) list1 a a1 m m1 m2 m3 (out ++ [(v17, v18)]) b0 r0
      else
        none
    else
      none
  else
    b0 i list1 a a1 m m1 m2 m3 out
theorem h17_g14 {α : Type} (F0 : T4 α) (F1 : T0 α) (F2 : T0 α) (F3 : T13 α) (F4 : T8 α) (F5 : T14 α) (G14 : T15 α) (n : Nat) : GenL (α := α) Try.prog Try.f17 S15 (h17_x F0 F1 F2 F3 F4 F5 G14 n) 14 h17_t14 h17_p14 n G14 (h17_b14 F0 F3 G14) := by intro _ _ _ _ _ _ _ _ _ _ _; kernel_rfl
def h17_b {α : Type} (F0 : T4 α) (F1 : T0 α) (F2 : T0 α) (F3 : T13 α) (F4 : T8 α) (F5 : T14 α) (G14 : T15 α) (k : Nat) (list : List (Int × Int)) (r0 : (List (Int × Int)) → Option α) : Option α :=
  bif (true && decide (0 < (((List.length list) : Nat) : Int))) then
    (list[0]?).bind fun e_ =>
    bif (true && decide (1 < (((List.length list) : Nat) : Int))) then
      (list[1]?).bind fun e_1 =>
      bif (true && decide (2 < (((List.length list) : Nat) : Int))) then
        (list[2]?).bind fun e_2 =>
        F0 k e_1.1 e_1.2 e_.1 e_.2 (-1) fun v v1 =>
        F1 k v v1 fun v2 v3 =>
        F2 k v2 v3 fun v4 v5 =>
        F0 k e_2.1 e_2.2 e_1.1 e_1.2 (-1) fun v6 v7 =>
        F3 k v5 (w64 (0 - v4)) (w64 (0 - v3)) v2 v6 v7 fun v8 v9 =>
        bif decide (v9 < 0) then
          F4 k v8 (w64 (0 - v9)) fun v10 =>
          F5 k 1 (w64 (0 - v10)) 0 1 v5 (w64 (0 - v4)) (w64 (0 - (w64 (0 - v3)))) (w64 (0 - v2)) fun v11 v12 v13 v14 =>
          G14 k 0 list e_.1 e_.2 v11 v12 v13 v14 []
            (fun _ _ _ _ _ _ _ _ out1 =>
              r0 out1)
            r0
        else
          F4 k v8 v9 fun v19 =>
          F5 k 1 (w64 (0 - v19)) 0 1 v5 (w64 (0 - v4)) (w64 (0 - v3)) v2 fun v20 v21 v22 v23 =>
          G14 k 0 list e_.1 e_.2 v20 v21 v22 v23 []
            (fun _ _ _ _ _ _ _ _ out2 =>
              r0 out2)
            r0
      else
        none
    else
      none
  else
    none
theorem h17_g {α : Type} (F0 : T4 α) (F1 : T0 α) (F2 : T0 α) (F3 : T13 α) (F4 : T8 α) (F5 : T14 α) (G14 : T15 α) (n : Nat) : GenF (α := α) Try.prog Try.f17 S15 (h17_x F0 F1 F2 F3 F4 F5 G14 n) n (h17_b F0 F1 F2 F3 F4 F5 G14) := by intro _ _; kernel_rfl
theorem h17_good {α : Type} : ∀ n, GoodFn (α := α) Try.prog 17 (byShape S15.sh (callS S15 spec_l09Frame n)) := good_of Try.func17 (by kernel_rfl) (by kernel_rfl) (by kernel_rfl) eqs_ok (fun n => h17_g spec_l01Plus spec_l01Part spec_l01Base spec_l01Apply spec_l01Floor spec_l01Times spec_l09Frame_l14 n) (by delta h17_b spec_l09Frame; rfl) (allC h36_good (allC h37_good (allC h38_good (allC h39_good (allC h40_good (allC h41_good allN)))))) (allC (loop_fine (by kernel_rfl) (fun n => by delta h17_b14; funext _ _ _ _ _ _ _ _ _ _ _; exact (spec_l09Frame_l14.eq_2 ..).symm) (fun n => h17_g14 spec_l01Plus spec_l01Part spec_l01Base spec_l01Apply spec_l01Floor spec_l01Times spec_l09Frame_l14 n)) allN)

/-! loop.example/g01297/spec.l09Before -/
abbrev h42_x {α : Type}  : Nat → Ctx α := ctxS M eqs jt0 [] []
def h42_b {α : Type}  (_ : Nat) (a : Int) (a1 : Int) (b_ : Int) (b_1 : Int) (r0 : Bool → Option α) : Option α :=
  bif decide (a < b_) then
    r0 true
  else
  bif decide (a = b_) then
    r0 (decide (a1 < b_1))
  else
    r0 false
theorem h42_g {α : Type}  (n : Nat) : GenF (α := α) Try.prog Try.f42 S16 (h42_x n) n (h42_b) := by intro _ _ _ _ _; kernel_rfl
theorem h42_good {α : Type} : ∀ n, GoodFn (α := α) Try.prog 42 (byShape S16.sh (callS S16 spec_l09Before n)) := good_of Try.func42 (by kernel_rfl) (by kernel_rfl) (by kernel_rfl) eqs_ok (fun n => h42_g n) (by delta h42_b spec_l09Before; rfl) allN allN

/-! loop.example/g01297/spec.l09Less -/
def h18_t2 : Tpl := ⟨(.sl 0 :: (.sl 64 :: (.any :: (.any :: (.any :: (.int .i64 :: (anyN 24 []))))))), [(0, .rows 0 34 .pt), (64, .rows 0 34 .pt)], [], false⟩
def h18_p2 : PcS := loopS [.int, .rows .pt, .rows .pt] [0]
abbrev h18_x {α : Type} (F0 : T16 α) (G2 : T17 α) : Nat → Ctx α := ctxS M eqs jt0 [⟨42, S16, F0⟩] [lpT 2 h18_t2 h18_p2 R3 G2]
def h18_b2 {α : Type} (F0 : T16 α) (G2 : T17 α) (k : Nat) (i : Int) (a1 : List (Int × Int)) (b_1 : List (Int × Int)) (b0 : Int → (List (Int × Int)) → (List (Int × Int)) → Option α) (r0 : Bool → Option α) : Option α :=
  bif decide (i < (((List.length a1) : Nat) : Int)) then
    bif (decide (0 ≤ i) && decide (i < (((List.length a1) : Nat) : Int))) then
      (a1[i.toNat]?).bind fun e_ =>
      bif (decide (0 ≤ i) && decide (i < (((List.length b_1) : Nat) : Int))) then
        (b_1[i.toNat]?).bind fun e_1 =>
        bif (!(decide (e_.1 = e_1.1) && decide (e_.2 = e_1.2))) then
          bif (decide (0 ≤ i) && decide (i < (((List.length a1) : Nat) : Int))) then
            (a1[i.toNat]?).bind fun e_2 =>
            bif (decide (0 ≤ i) && decide (i < (((List.length b_1) : Nat) : Int))) then
              (b_1[i.toNat]?).bind fun e_3 =>
              F0 k e_2.1 e_2.2 e_3.1 e_3.2 fun v =>
              r0 v
            else
              none
          else
            none
        else
          G2 k (w64 (i + 1)) a1 b_1 b0 r0
      else
        none
    else
      none
  else
    b0 i a1 b_1
theorem h18_g2 {α : Type} (F0 : T16 α) (G2 : T17 α) (n : Nat) : GenL (α := α) Try.prog Try.f18 S17 (h18_x F0 G2 n) 2 h18_t2 h18_p2 n G2 (h18_b2 F0 G2) := by intro _ _ _ _ _; kernel_rfl
def h18_b {α : Type} (G2 : T17 α) (k : Nat) (a : List (Int × Int)) (b_ : List (Int × Int)) (r0 : Bool → Option α) : Option α :=
  G2 k 0 a b_
    (fun _ _ _ =>
      r0 false)
    r0
theorem h18_g {α : Type} (F0 : T16 α) (G2 : T17 α) (n : Nat) : GenF (α := α) Try.prog Try.f18 S17 (h18_x F0 G2 n) n (h18_b G2) := by intro _ _ _; kernel_rfl
theorem h18_good {α : Type} : ∀ n, GoodFn (α := α) Try.prog 18 (byShape S17.sh (callS S17 spec_l09Less n)) := good_of Try.func18 (by kernel_rfl) (by kernel_rfl) (by kernel_rfl) eqs_ok (fun n => h18_g spec_l09Before spec_l09Less_l2 n) (by delta h18_b spec_l09Less; rfl) (allC h42_good allN) (allC (loop_fine (by kernel_rfl) (fun n => by delta h18_b2; funext _ _ _ _ _; exact (spec_l09Less_l2.eq_2 ..).symm) (fun n => h18_g2 spec_l09Before spec_l09Less_l2 n)) allN)

/-! loop.example/g01297/spec.l01Code -/
def h19_t2 : Tpl := ⟨(.sl 0 :: (.any :: (.any :: (.int .i64 :: (anyN 12 []))))), [(0, .rows 0 34 .pt)], [], false⟩
def h19_p2 : PcS := loopS [.int, .rows .pt] [0]
abbrev h19_x {α : Type} (F0 : T6 α) (G2 : T18 α) : Nat → Ctx α := ctxS M eqs jt0 [⟨33, S5, F0⟩] [lpT 2 h19_t2 h19_p2 R0 G2]
def h19_b2 {α : Type} (F0 : T6 α) (G2 : T18 α) (k : Nat) (i : Int) (list1 : List (Int × Int)) (b0 : Int → (List (Int × Int)) → Option α) (r0 : Int → Option α) : Option α :=
  bif decide (i < (((List.length list1) : Nat) : Int)) then
    bif (decide (0 ≤ i) && decide (i < (((List.length list1) : Nat) : Int))) then
      (list1[i.toNat]?).bind fun e_ =>
      F0 k e_.1 e_.2 fun v =>
      bif (!v) then
        r0 1
      else
        G2 k (w64 (i + 1)) list1 b0 r0
    else
      none
  else
    b0 i list1
theorem h19_g2 {α : Type} (F0 : T6 α) (G2 : T18 α) (n : Nat) : GenL (α := α) Try.prog Try.f19 S18 (h19_x F0 G2 n) 2 h19_t2 h19_p2 n G2 (h19_b2 F0 G2) := by intro _ _ _ _; kernel_rfl
def h19_b {α : Type} (G2 : T18 α) (k : Nat) (list : List (Int × Int)) (r0 : Int → Option α) : Option α :=
  G2 k 0 list
    (fun _ _ =>
      r0 0)
    r0
theorem h19_g {α : Type} (F0 : T6 α) (G2 : T18 α) (n : Nat) : GenF (α := α) Try.prog Try.f19 S18 (h19_x F0 G2 n) n (h19_b G2) := by intro _ _; kernel_rfl
theorem h19_good {α : Type} : ∀ n, GoodFn (α := α) Try.prog 19 (byShape S18.sh (callS S18 spec_l01Code n)) := good_of Try.func19 (by kernel_rfl) (by kernel_rfl) (by kernel_rfl) eqs_ok (fun n => h19_g spec_l01Is spec_l01Code_l2 n) (by delta h19_b spec_l01Code; rfl) (allC h33_good allN) (allC (loop_fine (by kernel_rfl) (fun n => by delta h19_b2; funext _ _ _ _; exact (spec_l01Code_l2.eq_2 ..).symm) (fun n => h19_g2 spec_l01Is spec_l01Code_l2 n)) allN)

/-! loop.example/g01297/spec.l09Normal -/
def h10_t10 : Tpl := ⟨(.sl 0 :: (.any :: (.any :: (.any :: (.int .i64 :: (.sl 832 :: (.int .i64 :: (.int .i64 :: (.sl 1472 :: (.int .i64 :: (anyN 60 []))))))))))), [(0, .rows 0 34 .pt), (832, .rows 2 34 .pt), (1472, .rows 2 34 .pt)], [], false⟩
def h10_p10 : PcS := loopS [.int, .int, .int, .int, .rows .pt, .rows .pt, .rows .pt] [4]
def h10_t6 : Tpl := ⟨(.sl 0 :: (.any :: (.any :: (.any :: (.int .i64 :: (.sl 832 :: (.int .i64 :: (.int .i64 :: (anyN 62 []))))))))), [(0, .rows 0 34 .pt), (832, .rows 2 34 .pt)], [(5, 832, 34, .pt)], false⟩
def h10_p6 : PcS := loopS [.int, .int, .int, .rows .pt, .rows .pt] [2]
def h10_t3 : Tpl := ⟨(.sl 0 :: (.any :: (.any :: (.any :: (.int .i64 :: (.sl 832 :: (.int .i64 :: (anyN 63 [])))))))), [(0, .rows 0 34 .pt), (832, .rows 2 34 .pt)], [], false⟩
def h10_p3 : PcS := loopS [.int, .int, .rows .pt, .rows .pt] [0]
abbrev h10_x {α : Type} (F0 : T19 α) (F1 : T20 α) (F2 : T21 α) (G10 : T22 α) (G6 : T23 α) (G3 : T24 α) : Nat → Ctx α := ctxS M eqs jt0 [⟨17, S15, F0⟩, ⟨18, S17, F1⟩, ⟨19, S18, F2⟩] [lpT 10 h10_t10 h10_p10 R5 G10, lpT 6 h10_t6 h10_p6 R5 G6, lpT 3 h10_t3 h10_p3 R5 G3]
def h10_b10 {α : Type} (G10 : T22 α) (k : Nat) (n_2 : Int) (way2 : Int) (i1 : Int) (k_ : Int) (list3 : List (Int × Int)) (best2 : List (Int × Int)) (own : List (Int × Int)) (b4 : Int → Int → Int → Int → (List (Int × Int)) → (List (Int × Int)) → (List (Int × Int)) → Option α) (r0 : (List (Int × Int)) → Bool → Option α) : Option α :=
  bif decide (k_ < n_2) then
    bif decide (way2 = 0) then
      bif decide (n_2 = 0) then
        none
      else
      bif (decide (0 ≤ (Int.tmod (w64 (i1 + k_)) n_2)) && decide ((Int.tmod (w64 (i1 + k_)) n_2) < (((List.length list3) : Nat) : Int))) then
        (list3[(Int.tmod (w64 (i1 + k_)) n_2).toNat]?).bind fun e_ =>
        bif decide (((List.length own) + 1) ≤ big) then
          G10 k n_2 way2 i1 (w64 (k_ + 1)) list3 best2 (own ++ [(e_.1, e_.2)]) b4 r0
        else
          none
      else
        none
    else
    bif decide (n_2 = 0) then
      none
    else
    bif (decide (0 ≤ (Int.tmod (w64 ((w64 (i1 - k_)) + n_2)) n_2)) && decide ((Int.tmod (w64 ((w64 (i1 - k_)) + n_2)) n_2) < (((List.length list3) : Nat) : Int))) then
      (list3[(Int.tmod (w64 ((w64 (i1 - k_)) + n_2)) n_2).toNat]?).bind fun e_1 =>
      bif decide (((List.length own) + 1) ≤ big) then
        G10 k n_2 way2 i1 (w64 (k_ + 1)) list3 best2 (own ++ [(e_1.1, e_1.2)]) b4 r0
      else
        none
    else
      none
  else
    b4 n_2 way2 i1 k_ list3 best2 own
theorem h10_g10 {α : Type} (F0 : T19 α) (F1 : T20 α) (F2 : T21 α) (G10 : T22 α) (G6 : T23 α) (G3 : T24 α) (n : Nat) : GenL (α := α) Try.prog Try.f10 S19 (h10_x F0 F1 F2 G10 G6 G3 n) 10 h10_t10 h10_p10 n G10 (h10_b10 G10) := by intro _ _ _ _ _ _ _ _ _; kernel_rfl
def h10_b6 {α : Type} (F0 : T19 α) (F1 : T20 α) (G10 : T22 α) (G6 : T23 α) (k : Nat) (n_1 : Int) (way1 : Int) (i : Int) (list2 : List (Int × Int)) (best1 : List (Int × Int)) (b2 : Int → Int → Int → (List (Int × Int)) → (List (Int × Int)) → Option α) (r0 : (List (Int × Int)) → Bool → Option α) : Option α :=
  bif decide (i < n_1) then
    G10 k n_1 way1 i 0 list2 best1 []
      (fun n_3 way3 i2 _ list4 best3 own1 =>
        F0 k own1 fun v =>
        bif decide ((((List.length best3) : Nat) : Int) = 0) then
          G6 k n_3 way3 (w64 (i2 + 1)) list4 v b2 r0
        else
          F1 k v best3 fun v1 =>
          bif v1 then
            G6 k n_3 way3 (w64 (i2 + 1)) list4 v b2 r0
          else
            G6 k n_3 way3 (w64 (i2 + 1)) list4 best3 b2 r0)
      r0
  else
    b2 n_1 way1 i list2 best1
theorem h10_g6 {α : Type} (F0 : T19 α) (F1 : T20 α) (F2 : T21 α) (G10 : T22 α) (G6 : T23 α) (G3 : T24 α) (n : Nat) : GenL (α := α) Try.prog Try.f10 S19 (h10_x F0 F1 F2 G10 G6 G3 n) 6 h10_t6 h10_p6 n G6 (h10_b6 F0 F1 G10 G6) := by intro _ _ _ _ _ _ _; kernel_rfl
def h10_b3 {α : Type} (G6 : T23 α) (G3 : T24 α) (k : Nat) (n_ : Int) (way : Int) (list1 : List (Int × Int)) (best : List (Int × Int)) (b0 : Int → Int → (List (Int × Int)) → (List (Int × Int)) → Option α) (r0 : (List (Int × Int)) → Bool → Option α) : Option α :=
  bif decide (way < 2) then
    G6 k n_ way 0 list1 best
      (fun n_4 way4 _ list5 best4 =>
        G3 k n_4 (w64 (way4 + 1)) list5 best4 b0 r0)
      r0
  else
    b0 n_ way list1 best
theorem h10_g3 {α : Type} (F0 : T19 α) (F1 : T20 α) (F2 : T21 α) (G10 : T22 α) (G6 : T23 α) (G3 : T24 α) (n : Nat) : GenL (α := α) Try.prog Try.f10 S19 (h10_x F0 F1 F2 G10 G6 G3 n) 3 h10_t3 h10_p3 n G3 (h10_b3 G6 G3) := by intro _ _ _ _ _ _; kernel_rfl
def h10_b {α : Type} (F2 : T21 α) (G3 : T24 α) (k : Nat) (list : List (Int × Int)) (r0 : (List (Int × Int)) → Bool → Option α) : Option α :=
  G3 k (((List.length list) : Nat) : Int) 0 list []
    (fun _ _ _ best5 =>
      F2 k best5 fun v2 =>
      r0 best5 (decide (v2 = 0)))
    r0
theorem h10_g {α : Type} (F0 : T19 α) (F1 : T20 α) (F2 : T21 α) (G10 : T22 α) (G6 : T23 α) (G3 : T24 α) (n : Nat) : GenF (α := α) Try.prog Try.f10 S19 (h10_x F0 F1 F2 G10 G6 G3 n) n (h10_b F2 G3) := by intro _ _; kernel_rfl
theorem h10_good {α : Type} : ∀ n, GoodFn (α := α) Try.prog 10 (byShape S19.sh (callS S19 spec_l09Normal n)) := good_of Try.func10 (by kernel_rfl) (by kernel_rfl) (by kernel_rfl) eqs_ok (fun n => h10_g spec_l09Frame spec_l09Less spec_l01Code spec_l09Normal_l10 spec_l09Normal_l6 spec_l09Normal_l3 n) (by delta h10_b spec_l09Normal; rfl) (allC h17_good (allC h18_good (allC h19_good allN))) (allC (loop_fine (by kernel_rfl) (fun n => by delta h10_b10; funext _ _ _ _ _ _ _ _ _; exact (spec_l09Normal_l10.eq_2 ..).symm) (fun n => h10_g10 spec_l09Frame spec_l09Less spec_l01Code spec_l09Normal_l10 spec_l09Normal_l6 spec_l09Normal_l3 n)) (allC (loop_fine (by kernel_rfl) (fun n => by delta h10_b6; funext _ _ _ _ _ _ _; exact (spec_l09Normal_l6.eq_2 ..).symm) (fun n => h10_g6 spec_l09Frame spec_l09Less spec_l01Code spec_l09Normal_l10 spec_l09Normal_l6 spec_l09Normal_l3 n)) (allC (loop_fine (by kernel_rfl) (fun n => by delta h10_b3; funext _ _ _ _ _ _; exact (spec_l09Normal_l3.eq_2 ..).symm) (fun n => h10_g3 spec_l09Frame spec_l09Less spec_l01Code spec_l09Normal_l10 spec_l09Normal_l6 spec_l09Normal_l3 n)) allN)))

/-! loop.example/g01297/spec.AreLikePolygons -/
def h5_t10 : Tpl := ⟨(anyN 7 (.sl 1408 :: (.any :: (.sl 1728 :: (.any :: (.bool :: (.int .i64 :: (anyN 47 [])))))))), [(1408, .rows 2 34 .pt), (1728, .rows 2 34 .pt)], [], false⟩
def h5_p10 : PcS := loopS [.bool, .int, .rows .pt, .rows .pt] [0]
abbrev h5_x {α : Type} (F0 : T25 α) (F1 : T26 α) (G10 : T27 α) : Nat → Ctx α := ctxS M eqs jt0 [⟨9, S11, F0⟩, ⟨10, S19, F1⟩] [lpT 10 h5_t10 h5_p10 R6 G10]
def h5_b10 {α : Type} (G10 : T27 α) (k : Nat) (same : Bool) (i : Int) (one : List (Int × Int)) (two : List (Int × Int)) (b0 : Bool → Int → (List (Int × Int)) → (List (Int × Int)) → Option α) (r0 : Bool → Int → Option α) : Option α :=
  bif decide (i < (((List.length one) : Nat) : Int)) then
    bif same then
      bif (decide (0 ≤ i) && decide (i < (((List.length one) : Nat) : Int))) then
        (one[i.toNat]?).bind fun e_ =>
        bif (decide (0 ≤ i) && decide (i < (((List.length two) : Nat) : Int))) then
          (two[i.toNat]?).bind fun e_1 =>
          G10 k (decide (e_.1 = e_1.1) && decide (e_.2 = e_1.2)) (w64 (i + 1)) one two b0 r0
        else
          none
      else
        none
    else
      b0 same i one two
  else
    b0 same i one two
theorem h5_g10 {α : Type} (F0 : T25 α) (F1 : T26 α) (G10 : T27 α) (n : Nat) : GenL (α := α) Try.prog Try.f5 S20 (h5_x F0 F1 G10 n) 10 h5_t10 h5_p10 n G10 (h5_b10 G10) := by intro _ _ _ _ _ _; kernel_rfl
def h5_b {α : Type} (F0 : T25 α) (F1 : T26 α) (G10 : T27 α) (k : Nat) (a : List (Int × Int)) (b_ : List (Int × Int)) (r0 : Bool → Int → Option α) : Option α :=
  F0 k a b_ fun v =>
  bif (!decide (v = 0)) then
    r0 false v
  else
    F1 k a fun v1 v2 =>
    F1 k b_ fun v3 v4 =>
    bif (!v2) then
      r0 false 3
    else
    bif (!v4) then
      r0 false 3
    else
      G10 k (decide ((((List.length v1) : Nat) : Int) = (((List.length v3) : Nat) : Int))) 0 v1 v3
        (fun same1 _ _ _ =>
          r0 same1 0)
        r0
theorem h5_g {α : Type} (F0 : T25 α) (F1 : T26 α) (G10 : T27 α) (n : Nat) : GenF (α := α) Try.prog Try.f5 S20 (h5_x F0 F1 G10 n) n (h5_b F0 F1 G10) := by intro _ _ _; kernel_rfl
theorem h5_good {α : Type} : ∀ n, GoodFn (α := α) Try.prog 5 (byShape S20.sh (callS S20 spec_AreLikePolygons n)) := good_of Try.func5 (by kernel_rfl) (by kernel_rfl) (by kernel_rfl) eqs_ok (fun n => h5_g spec_l09Code_0M2 spec_l09Normal spec_AreLikePolygons_l10 n) (by delta h5_b spec_AreLikePolygons; rfl) (allC h9_good (allC h10_good allN)) (allC (loop_fine (by kernel_rfl) (fun n => by delta h5_b10; funext _ _ _ _ _ _; exact (spec_AreLikePolygons_l10.eq_2 ..).symm) (fun n => h5_g10 spec_l09Code_0M2 spec_l09Normal spec_AreLikePolygons_l10 n)) allN)

/-! loop.example/g01297/impl.in -/
abbrev h20_x {α : Type}  : Nat → Ctx α := ctxS M eqs jt0 [] []
def h20_b {α : Type}  (_ : Nat) (n_ : Int) (low : Int) (high : Int) (r0 : Bool → Option α) : Option α :=
  bif decide (low ≤ n_) then
    r0 (decide (n_ ≤ high))
  else
    r0 false
theorem h20_g {α : Type}  (n : Nat) : GenF (α := α) Try.prog Try.f20 S3 (h20_x n) n (h20_b) := by intro _ _ _ _; kernel_rfl
theorem h20_good {α : Type} : ∀ n, GoodFn (α := α) Try.prog 20 (byShape S3.sh (callS S3 impl_in n)) := good_of Try.func20 (by kernel_rfl) (by kernel_rfl) (by kernel_rfl) eqs_ok (fun n => h20_g n) (by delta h20_b impl_in; rfl) allN allN

/-! loop.example/g01297/impl.small -/
abbrev h23_x {α : Type} (F0 : T2 α) : Nat → Ctx α := ctxS M eqs jt0 [⟨20, S3, F0⟩] []
def h23_b {α : Type} (F0 : T2 α) (k : Nat) (a : Int) (a1 : Int) (r0 : Bool → Option α) : Option α :=
  F0 k a (-1000) 1000 fun v =>
  bif v then
    F0 k a1 (-1000) 1000 fun v1 =>
    r0 v1
  else
    r0 false
theorem h23_g {α : Type} (F0 : T2 α) (n : Nat) : GenF (α := α) Try.prog Try.f23 S5 (h23_x F0 n) n (h23_b F0) := by intro _ _ _; kernel_rfl
theorem h23_good {α : Type} : ∀ n, GoodFn (α := α) Try.prog 23 (byShape S5.sh (callS S5 impl_small n)) := good_of Try.func23 (by kernel_rfl) (by kernel_rfl) (by kernel_rfl) eqs_ok (fun n => h23_g impl_in n) (by delta h23_b impl_small; rfl) (allC h20_good allN) allN

/-! loop.example/g01297/impl.IsPolygon$1 -/
abbrev h22_x {α : Type} (F0 : T6 α) : Nat → Ctx α := ctxS M eqs jt0 [⟨23, S5, F0⟩] []
def h22_b {α : Type} (F0 : T6 α) (k : Nat) (a : Int) (a1 : Int) (r0 : Bool → Option α) : Option α :=
  F0 k a a1 fun v =>
  r0 (!v)
theorem h22_g {α : Type} (F0 : T6 α) (n : Nat) : GenF (α := α) Try.prog Try.f22 S5 (h22_x F0 n) n (h22_b F0) := by intro _ _ _; kernel_rfl
theorem h22_good {α : Type} : ∀ n, GoodFn (α := α) Try.prog 22 (byShape S5.sh (callS S5 impl_IsPolygon_1 n)) := good_of Try.func22 (by kernel_rfl) (by kernel_rfl) (by kernel_rfl) eqs_ok (fun n => h22_g impl_small n) (by delta h22_b impl_IsPolygon_1; rfl) (allC h23_good allN) allN

/-! slices.IndexFunc[[]loop.example/g01297/impl.Point,loop.example/g01297/impl.Point] -/
def h43_t2 : Tpl := ⟨(.sl 0 :: (.fn 22 [] :: (anyN 5 (.int .i64 :: (.int .i64 :: (anyN 10 [])))))), [(0, .rows 0 34 .pt)], [], false⟩
def h43_p2 : PcS := loopS [.int, .int, .rows .pt] [0]
abbrev h43_x {α : Type} (F0 : T6 α) (G2 : T28 α) : Nat → Ctx α := ctxS M eqs jt0 [⟨22, S5, F0⟩] [lpT 2 h43_t2 h43_p2 R0 G2]
def h43_b2 {α : Type} (F0 : T6 α) (G2 : T28 α) (k : Nat) (x : Int) (x1 : Int) (s1 : List (Int × Int)) (b0 : Int → Int → (List (Int × Int)) → Option α) (r0 : Int → Option α) : Option α :=
  bif decide (x1 < x) then
    bif (decide (0 ≤ x1) && decide (x1 < (((List.length s1) : Nat) : Int))) then
      (s1[x1.toNat]?).bind fun e_ =>
      F0 k e_.1 e_.2 fun v =>
      bif v then
        r0 x1
      else
        G2 k x (w64 (x1 + 1)) s1 b0 r0
    else
      none
  else
    b0 x x1 s1
theorem h43_g2 {α : Type} (F0 : T6 α) (G2 : T28 α) (n : Nat) : GenL (α := α) Try.prog Try.f43 S21 (h43_x F0 G2 n) 2 h43_t2 h43_p2 n G2 (h43_b2 F0 G2) := by intro _ _ _ _ _; kernel_rfl
def h43_b {α : Type} (G2 : T28 α) (k : Nat) (s : List (Int × Int)) (r0 : Int → Option α) : Option α :=
  G2 k (((List.length s) : Nat) : Int) 0 s
    (fun _ _ _ =>
      r0 (-1))
    r0
theorem h43_g {α : Type} (F0 : T6 α) (G2 : T28 α) (n : Nat) : GenF (α := α) Try.prog Try.f43 S21 (h43_x F0 G2 n) n (h43_b G2) := by intro _ _; kernel_rfl
theorem h43_good {α : Type} : ∀ n, GoodFn (α := α) Try.prog 43 (byShape S21.sh (callS S21 slices_IndexFunc_impl_Point_impl_Point_1F_impl_IsPolygon_1 n)) := good_of Try.func43 (by kernel_rfl) (by kernel_rfl) (by kernel_rfl) eqs_ok (fun n => h43_g impl_IsPolygon_1 slices_IndexFunc_impl_Point_impl_Point_1F_impl_IsPolygon_1_l2 n) (by delta h43_b slices_IndexFunc_impl_Point_impl_Point_1F_impl_IsPolygon_1; rfl) (allC h22_good allN) (allC (loop_fine (by kernel_rfl) (fun n => by delta h43_b2; funext _ _ _ _ _; exact (slices_IndexFunc_impl_Point_impl_Point_1F_impl_IsPolygon_1_l2.eq_2 ..).symm) (fun n => h43_g2 impl_IsPolygon_1 slices_IndexFunc_impl_Point_impl_Point_1F_impl_IsPolygon_1_l2 n)) allN)

/-! slices.ContainsFunc[[]loop.example/g01297/impl.Point,loop.example/g01297/impl.Point] -/
abbrev h21_x {α : Type} (F0 : T21 α) : Nat → Ctx α := ctxS M eqs jt0 [⟨43, S21, F0⟩] []
def h21_b {α : Type} (F0 : T21 α) (k : Nat) (s : List (Int × Int)) (r0 : Bool → Option α) : Option α :=
  F0 k s fun v =>
  r0 (decide (0 ≤ v))
theorem h21_g {α : Type} (F0 : T21 α) (n : Nat) : GenF (α := α) Try.prog Try.f21 S22 (h21_x F0 n) n (h21_b F0) := by intro _ _; kernel_rfl
theorem h21_good {α : Type} : ∀ n, GoodFn (α := α) Try.prog 21 (byShape S22.sh (callS S22 slices_ContainsFunc_impl_Point_impl_Point_1F_impl_IsPolygon_1 n)) := good_of Try.func21 (by kernel_rfl) (by kernel_rfl) (by kernel_rfl) eqs_ok (fun n => h21_g slices_IndexFunc_impl_Point_impl_Point_1F_impl_IsPolygon_1 n) (by delta h21_b slices_ContainsFunc_impl_Point_impl_Point_1F_impl_IsPolygon_1; rfl) (allC h43_good allN) allN

/-! (loop.example/g01297/impl.polygon).next -/
abbrev h44_x {α : Type}  : Nat → Ctx α := ctxS M eqs jt0 [] []
def h44_b {α : Type}  (_ : Nat) (p_ : List (Int × Int)) (i : Int) (r0 : Int → Int → Option α) : Option α :=
  bif decide ((((List.length p_) : Nat) : Int) = 0) then
    none
  else
  bif (decide (0 ≤ (Int.tmod (w64 (i + 1)) (((List.length p_) : Nat) : Int))) && decide ((Int.tmod (w64 (i + 1)) (((List.length p_) : Nat) : Int)) < (((List.length p_) : Nat) : Int))) then
    (p_[(Int.tmod (w64 (i + 1)) (((List.length p_) : Nat) : Int)).toNat]?).bind fun e_ =>
    r0 e_.1 e_.2
  else
    none
theorem h44_g {α : Type}  (n : Nat) : GenF (α := α) Try.prog Try.f44 S23 (h44_x n) n (h44_b) := by intro _ _ _; kernel_rfl
theorem h44_good {α : Type} : ∀ n, GoodFn (α := α) Try.prog 44 (byShape S23.sh (callS S23 impl_polygon_next n)) := good_of Try.func44 (by kernel_rfl) (by kernel_rfl) (by kernel_rfl) eqs_ok (fun n => h44_g n) (by delta h44_b impl_polygon_next; rfl) allN allN

/-! (loop.example/g01297/impl.Point).plus -/
abbrev h63_x {α : Type}  : Nat → Ctx α := ctxS M eqs jt0 [] []
def h63_b {α : Type}  (_ : Nat) (a : Int) (a1 : Int) (b_ : Int) (b_1 : Int) (k_ : Int) (r0 : Int → Int → Option α) : Option α :=
  r0 (w64 (a + (w64 (k_ * b_)))) (w64 (a1 + (w64 (k_ * b_1))))
theorem h63_g {α : Type}  (n : Nat) : GenF (α := α) Try.prog Try.f63 S6 (h63_x n) n (h63_b) := by intro _ _ _ _ _ _; kernel_rfl
theorem h63_good {α : Type} : ∀ n, GoodFn (α := α) Try.prog 63 (byShape S6.sh (callS S6 impl_Point_plus n)) := good_of Try.func63 (by kernel_rfl) (by kernel_rfl) (by kernel_rfl) eqs_ok (fun n => h63_g n) (by delta h63_b impl_Point_plus; rfl) allN allN

/-! (loop.example/g01297/impl.Point).less -/
abbrev h46_x {α : Type} (F0 : T4 α) : Nat → Ctx α := ctxS M eqs jt0 [⟨63, S6, F0⟩] []
def h46_b {α : Type} (F0 : T4 α) (k : Nat) (a : Int) (a1 : Int) (b_ : Int) (b_1 : Int) (r0 : Int → Int → Option α) : Option α :=
  F0 k a a1 b_ b_1 (-1) fun v v1 =>
  r0 v v1
theorem h46_g {α : Type} (F0 : T4 α) (n : Nat) : GenF (α := α) Try.prog Try.f46 S24 (h46_x F0 n) n (h46_b F0) := by intro _ _ _ _ _; kernel_rfl
theorem h46_good {α : Type} : ∀ n, GoodFn (α := α) Try.prog 46 (byShape S24.sh (callS S24 impl_Point_less n)) := good_of Try.func46 (by kernel_rfl) (by kernel_rfl) (by kernel_rfl) eqs_ok (fun n => h46_g impl_Point_plus n) (by delta h46_b impl_Point_less; rfl) (allC h63_good allN) allN

/-! loop.example/g01297/impl.det -/
abbrev h50_x {α : Type}  : Nat → Ctx α := ctxS M eqs jt0 [] []
def h50_b {α : Type}  (_ : Nat) (a : Int) (a1 : Int) (b_ : Int) (b_1 : Int) (r0 : Int → Option α) : Option α :=
  r0 (w64 ((w64 (a * b_1)) - (w64 (a1 * b_))))
theorem h50_g {α : Type}  (n : Nat) : GenF (α := α) Try.prog Try.f50 S7 (h50_x n) n (h50_b) := by intro _ _ _ _ _; kernel_rfl
theorem h50_good {α : Type} : ∀ n, GoodFn (α := α) Try.prog 50 (byShape S7.sh (callS S7 impl_det n)) := good_of Try.func50 (by kernel_rfl) (by kernel_rfl) (by kernel_rfl) eqs_ok (fun n => h50_g n) (by delta h50_b impl_det; rfl) allN allN

/-! loop.example/g01297/impl.turn -/
abbrev h45_x {α : Type} (F0 : T29 α) (F1 : T5 α) : Nat → Ctx α := ctxS M eqs jt0 [⟨46, S24, F0⟩, ⟨50, S7, F1⟩] []
def h45_b {α : Type} (F0 : T29 α) (F1 : T5 α) (k : Nat) (a : Int) (a1 : Int) (b_ : Int) (b_1 : Int) (c : Int) (c1 : Int) (r0 : Int → Option α) : Option α :=
  F0 k b_ b_1 a a1 fun v v1 =>
  F0 k c c1 b_ b_1 fun v2 v3 =>
  F1 k v v1 v2 v3 fun v4 =>
  r0 v4
theorem h45_g {α : Type} (F0 : T29 α) (F1 : T5 α) (n : Nat) : GenF (α := α) Try.prog Try.f45 S8 (h45_x F0 F1 n) n (h45_b F0 F1) := by intro _ _ _ _ _ _ _; kernel_rfl
theorem h45_good {α : Type} : ∀ n, GoodFn (α := α) Try.prog 45 (byShape S8.sh (callS S8 impl_turn n)) := good_of Try.func45 (by kernel_rfl) (by kernel_rfl) (by kernel_rfl) eqs_ok (fun n => h45_g impl_Point_less impl_det n) (by delta h45_b impl_turn; rfl) (allC h46_good (allC h50_good allN)) allN

/-! (loop.example/g01297/impl.polygon).convex -/
def h24_t6 : Tpl := ⟨(.sl 0 :: (.any :: (.any :: (.int .i64 :: (.ptr 256 0 0 :: (.ptr 320 0 0 :: (.any :: (.any :: (.sl 0 :: (.int .i64 :: (.int .i64 :: (anyN 7 (.sl 0 :: (.int .i64 :: (.int .i64 :: (anyN 25 [])))))))))))))))), [(0, .rows 0 34 .pt), (256, .ints 2 34 .i64 2), (320, .ints 2 34 .i64 2)], [], false⟩
def h24_p6 : PcS := loopS [.int, .int, .int, .int, .int, .rows .pt, .int, .int, .int, .int] [2]
def h24_t2 : Tpl := ⟨(.sl 0 :: (anyN 7 (.sl 0 :: (.int .i64 :: (.int .i64 :: (anyN 35 [])))))), [(0, .rows 0 34 .pt)], [], false⟩
def h24_p2 : PcS := loopS [.int, .int, .rows .pt] [0]
abbrev h24_x {α : Type} (F0 : T30 α) (F1 : T7 α) (G6 : T31 α) (G2 : T32 α) : Nat → Ctx α := ctxS M eqs jt0 [⟨44, S23, F0⟩, ⟨45, S8, F1⟩] [lpT 6 h24_t6 h24_p6 R3 G6, lpT 2 h24_t2 h24_p2 R3 G2]
def h24_b6 {α : Type} (F1 : T7 α) (G6 : T31 α) (k : Nat) (i : Int) (x2 : Int) (x3 : Int) (x4 : Int) (x5 : Int) (p_2 : List (Int × Int)) (a : Int) (a1 : Int) (b_ : Int) (b_1 : Int) (b2 : Int → Int → Int → Int → Int → (List (Int × Int)) → Int → Int → Int → Int → Option α) (r0 : Bool → Option α) : Option α :=
  bif decide (x5 < x4) then
    bif (decide (0 ≤ x5) && decide (x5 < (((List.length p_2) : Nat) : Int))) then
      (p_2[x5.toNat]?).bind fun e_1 =>
      bif (!decide (x5 = i)) then
        bif decide ((((List.length p_2) : Nat) : Int) = 0) then
          none
        else
        bif (!decide (x5 = (Int.tmod (w64 (i + 1)) (((List.length p_2) : Nat) : Int)))) then
          F1 k a a1 b_ b_1 e_1.1 e_1.2 fun v2 =>
          bif decide (v2 ≤ 0) then
            r0 false
          else
            G6 k i x2 x3 x4 (w64 (x5 + 1)) p_2 a a1 b_ b_1 b2 r0
        else
          G6 k i x2 x3 x4 (w64 (x5 + 1)) p_2 a a1 b_ b_1 b2 r0
      else
        G6 k i x2 x3 x4 (w64 (x5 + 1)) p_2 a a1 b_ b_1 b2 r0
    else
      none
  else
    b2 i x2 x3 x4 x5 p_2 a a1 b_ b_1
theorem h24_g6 {α : Type} (F0 : T30 α) (F1 : T7 α) (G6 : T31 α) (G2 : T32 α) (n : Nat) : GenL (α := α) Try.prog Try.f24 S10 (h24_x F0 F1 G6 G2 n) 6 h24_t6 h24_p6 n G6 (h24_b6 F1 G6) := by intro _ _ _ _ _ _ _ _ _ _ _ _; kernel_rfl
def h24_b2 {α : Type} (F0 : T30 α) (G6 : T31 α) (G2 : T32 α) (k : Nat) (x : Int) (x1 : Int) (p_1 : List (Int × Int)) (b0 : Int → Int → (List (Int × Int)) → Option α) (r0 : Bool → Option α) : Option α :=
  bif decide (x1 < x) then
    bif (decide (0 ≤ x1) && decide (x1 < (((List.length p_1) : Nat) : Int))) then
      (p_1[x1.toNat]?).bind fun e_ =>
      F0 k p_1 x1 fun v v1 =>
      G6 k x1 x x1 (((List.length p_1) : Nat) : Int) 0 p_1 e_.1 e_.2 v v1
        (fun _ x6 x7 _ _ p_3 _ _ _ _ =>
          G2 k x6 (w64 (x7 + 1)) p_3 b0 r0)
        r0
    else
      none
  else
    b0 x x1 p_1
theorem h24_g2 {α : Type} (F0 : T30 α) (F1 : T7 α) (G6 : T31 α) (G2 : T32 α) (n : Nat) : GenL (α := α) Try.prog Try.f24 S10 (h24_x F0 F1 G6 G2 n) 2 h24_t2 h24_p2 n G2 (h24_b2 F0 G6 G2) := by intro _ _ _ _ _; kernel_rfl
def h24_b {α : Type} (G2 : T32 α) (k : Nat) (p_ : List (Int × Int)) (r0 : Bool → Option α) : Option α :=
  G2 k (((List.length p_) : Nat) : Int) 0 p_
    (fun _ _ _ =>
      r0 true)
    r0
theorem h24_g {α : Type} (F0 : T30 α) (F1 : T7 α) (G6 : T31 α) (G2 : T32 α) (n : Nat) : GenF (α := α) Try.prog Try.f24 S10 (h24_x F0 F1 G6 G2 n) n (h24_b G2) := by intro _ _; kernel_rfl
theorem h24_good {α : Type} : ∀ n, GoodFn (α := α) Try.prog 24 (byShape S10.sh (callS S10 impl_polygon_convex n)) := good_of Try.func24 (by kernel_rfl) (by kernel_rfl) (by kernel_rfl) eqs_ok (fun n => h24_g impl_polygon_next impl_turn impl_polygon_convex_l6 impl_polygon_convex_l2 n) (by delta h24_b impl_polygon_convex; rfl) (allC h44_good (allC h45_good allN)) (allC (loop_fine (by kernel_rfl) (fun n => by delta h24_b6; funext _ _ _ _ _ _ _ _ _ _ _ _; exact (impl_polygon_convex_l6.eq_2 ..).symm) (fun n => h24_g6 impl_polygon_next impl_turn impl_polygon_convex_l6 impl_polygon_convex_l2 n)) (allC (loop_fine (by kernel_rfl) (fun n => by delta h24_b2; funext _ _ _ _ _; exact (impl_polygon_convex_l2.eq_2 ..).symm) (fun n => h24_g2 impl_polygon_next impl_turn impl_polygon_convex_l6 impl_polygon_convex_l2 n)) allN))

/-! loop.example/g01297/impl.IsPolygon -/
abbrev h12_x {α : Type} (F0 : T2 α) (F1 : T10 α) (F2 : T10 α) : Nat → Ctx α := ctxS M eqs jt0 [⟨20, S3, F0⟩, ⟨21, S22, F1⟩, ⟨24, S10, F2⟩] []
def h12_b {α : Type} (F0 : T2 α) (F1 : T10 α) (F2 : T10 α) (k : Nat) (list : List (Int × Int)) (r0 : Bool → Option α) : Option α :=
  F0 k (((List.length list) : Nat) : Int) 3 12 fun v =>
  bif (!v) then
    r0 false
  else
    F1 k list fun v1 =>
    bif v1 then
      r0 false
    else
      F2 k list fun v2 =>
      r0 v2
theorem h12_g {α : Type} (F0 : T2 α) (F1 : T10 α) (F2 : T10 α) (n : Nat) : GenF (α := α) Try.prog Try.f12 S10 (h12_x F0 F1 F2 n) n (h12_b F0 F1 F2) := by intro _ _; kernel_rfl
theorem h12_good {α : Type} : ∀ n, GoodFn (α := α) Try.prog 12 (byShape S10.sh (callS S10 impl_IsPolygon n)) := good_of Try.func12 (by kernel_rfl) (by kernel_rfl) (by kernel_rfl) eqs_ok (fun n => h12_g impl_in slices_ContainsFunc_impl_Point_impl_Point_1F_impl_IsPolygon_1 impl_polygon_convex n) (by delta h12_b impl_IsPolygon; rfl) (allC h20_good (allC h21_good (allC h24_good allN))) allN

/-! slices.Grow[loop.example/g01297/impl.polygon,loop.example/g01297/impl.Point] -/
abbrev h54_x {α : Type}  : Nat → Ctx α := ctxS M eqs jt0 [] []
def h54_b {α : Type}  (_ : Nat) (n_ : Int) (r0 : (List (Int × Int)) → Option α) (r1 : Option α) : Option α :=
  bif decide (n_ < 0) then
    none
  else
  bif decide (0 < (w64 (n_ - 0))) then
    bif (decide (1 ≤ (w64 (n_ - 0))) && decide ((w64 (n_ - 0)) ≤ (big : Int))) then
      bif (true && decide (0 ≤ (((List.length (List.replicate ((w64 (n_ - 0)).toNat) (0, 0))) : Nat) : Int))) then
        r0 (List.take 0 (List.replicate ((w64 (n_ - 0)).toNat) (0, 0)))
      else
        none
    else
      none
  else
    r1
theorem h54_g {α : Type}  (n : Nat) : GenF (α := α) Try.prog Try.f54 S25 (h54_x n) n (h54_b) := by intro _ _; kernel_rfl
theorem h54_good {α : Type} : ∀ n, GoodFn (α := α) Try.prog 54 (byShape S25.sh (callS S25 slices_Grow_impl_polygon_impl_Point_0N n)) := good_of Try.func54 (by kernel_rfl) (by kernel_rfl) (by kernel_rfl) eqs_ok (fun n => h54_g n) (by delta h54_b slices_Grow_impl_polygon_impl_Point_0N; rfl) allN allN

/-! slices.Concat[loop.example/g01297/impl.polygon,loop.example/g01297/impl.Point] -/
abbrev h26_x {α : Type} (F0 : T33 α) : Nat → Ctx α := ctxS M eqs jt0 [⟨54, S25, F0⟩] []
def h26_b {α : Type} (F0 : T33 α) (k : Nat) (slices : List (Int × Int)) (slices1 : List (Int × Int)) (r0 : (List (Int × Int)) → Option α) : Option α :=
  bif decide ((w64 (0 + (((List.length slices) : Nat) : Int))) < 0) then
    none
  else
  bif decide ((w64 ((w64 (0 + (((List.length slices) : Nat) : Int))) + (((List.length slices1) : Nat) : Int))) < 0) then
    none
  else
    F0 k (w64 ((w64 (0 + (((List.length slices) : Nat) : Int))) + (((List.length slices1) : Nat) : Int)))
      (fun v =>
        bif decide (((List.length v) + (List.length slices)) ≤ big) then
          bif decide (((List.length (v ++ slices)) + (List.length slices1)) ≤ big) then
            r0 ((v ++ slices) ++ slices1)
          else
            none
        else
          none)
      (
        bif decide ((List.length slices) ≤ big) then
          bif decide (((List.length slices) + (List.length slices1)) ≤ big) then
            r0 (slices ++ slices1)
          else
            none
        else
          none)
theorem h26_g {α : Type} (F0 : T33 α) (n : Nat) : GenF (α := α) Try.prog Try.f26 S26 (h26_x F0 n) n (h26_b F0) := by intro _ _ _; kernel_rfl
theorem h26_good {α : Type} : ∀ n, GoodFn (α := α) Try.prog 26 (byShape S26.sh (callS S26 slices_Concat_impl_polygon_impl_Point_0M2 n)) := good_of Try.func26 (by kernel_rfl) (by kernel_rfl) (by kernel_rfl) eqs_ok (fun n => h26_g slices_Grow_impl_polygon_impl_Point_0N n) (by delta h26_b slices_Concat_impl_polygon_impl_Point_0M2; rfl) (allC h54_good allN) allN

/-! loop.example/g01297/impl.size -/
abbrev h53_x {α : Type}  : Nat → Ctx α := ctxS M eqs jt0 [] []
def h53_b {α : Type}  (_ : Nat) (n_ : Int) (r0 : Int → Option α) : Option α :=
  r0 (max n_ (w64 (0 - n_)))
theorem h53_g {α : Type}  (n : Nat) : GenF (α := α) Try.prog Try.f53 S27 (h53_x n) n (h53_b) := by intro _ _; kernel_rfl
theorem h53_good {α : Type} : ∀ n, GoodFn (α := α) Try.prog 53 (byShape S27.sh (callS S27 impl_size n)) := good_of Try.func53 (by kernel_rfl) (by kernel_rfl) (by kernel_rfl) eqs_ok (fun n => h53_g n) (by delta h53_b impl_size; rfl) allN allN

/-! loop.example/g01297/impl.gcd -/
def h69_t1 : Tpl := ⟨(.int .i64 :: (.int .i64 :: (anyN 11 []))), [], [], false⟩
def h69_p1 : PcS := loopS [.int, .int] [0]
abbrev h69_x {α : Type} (F0 : T34 α) (G1 : T11 α) : Nat → Ctx α := ctxS M eqs jt0 [⟨53, S27, F0⟩] [lpT 1 h69_t1 h69_p1 R0 G1]
def h69_b1 {α : Type} (G1 : T11 α) (k : Nat) (a1 : Int) (b_1 : Int) (b0 : Int → Int → Option α) (r0 : Int → Option α) : Option α :=
  bif (!decide (b_1 = 0)) then
    bif decide (b_1 = 0) then
      none
    else
      G1 k b_1 (Int.tmod a1 b_1) b0 r0
  else
    b0 a1 b_1
theorem h69_g1 {α : Type} (F0 : T34 α) (G1 : T11 α) (n : Nat) : GenL (α := α) Try.prog Try.f69 S12 (h69_x F0 G1 n) 1 h69_t1 h69_p1 n G1 (h69_b1 G1) := by intro _ _ _ _; kernel_rfl
def h69_b {α : Type} (F0 : T34 α) (G1 : T11 α) (k : Nat) (a : Int) (b_ : Int) (r0 : Int → Option α) : Option α :=
  G1 k a b_
    (fun a2 _ =>
      F0 k a2 fun v =>
      r0 v)
    r0
theorem h69_g {α : Type} (F0 : T34 α) (G1 : T11 α) (n : Nat) : GenF (α := α) Try.prog Try.f69 S12 (h69_x F0 G1 n) n (h69_b F0 G1) := by intro _ _ _; kernel_rfl
theorem h69_good {α : Type} : ∀ n, GoodFn (α := α) Try.prog 69 (byShape S12.sh (callS S12 impl_gcd n)) := good_of Try.func69 (by kernel_rfl) (by kernel_rfl) (by kernel_rfl) eqs_ok (fun n => h69_g impl_size impl_gcd_l1 n) (by delta h69_b impl_gcd; rfl) (allC h53_good allN) (allC (loop_fine (by kernel_rfl) (fun n => by delta h69_b1; funext _ _ _ _; exact (impl_gcd_l1.eq_2 ..).symm) (fun n => h69_g1 impl_size impl_gcd_l1 n)) allN)

/-! (loop.example/g01297/impl.Point).length -/
abbrev h64_x {α : Type} (F0 : T8 α) : Nat → Ctx α := ctxS M eqs jt0 [⟨69, S12, F0⟩] []
def h64_b {α : Type} (F0 : T8 α) (k : Nat) (a : Int) (a1 : Int) (r0 : Int → Option α) : Option α :=
  F0 k a a1 fun v =>
  r0 v
theorem h64_g {α : Type} (F0 : T8 α) (n : Nat) : GenF (α := α) Try.prog Try.f64 S9 (h64_x F0 n) n (h64_b F0) := by intro _ _ _; kernel_rfl
theorem h64_good {α : Type} : ∀ n, GoodFn (α := α) Try.prog 64 (byShape S9.sh (callS S9 impl_Point_length n)) := good_of Try.func64 (by kernel_rfl) (by kernel_rfl) (by kernel_rfl) eqs_ok (fun n => h64_g impl_gcd n) (by delta h64_b impl_Point_length; rfl) (allC h69_good allN) allN

/-! (loop.example/g01297/impl.Point).primitive -/
abbrev h47_x {α : Type} (F0 : T8 α) : Nat → Ctx α := ctxS M eqs jt0 [⟨64, S9, F0⟩] []
def h47_b {α : Type} (F0 : T8 α) (k : Nat) (a : Int) (a1 : Int) (r0 : Int → Int → Option α) : Option α :=
  F0 k a a1 fun v =>
  bif decide (v = 0) then
    none
  else
  bif decide (v = 0) then
    none
  else
    r0 (w64 (Int.tdiv a v)) (w64 (Int.tdiv a1 v))
theorem h47_g {α : Type} (F0 : T8 α) (n : Nat) : GenF (α := α) Try.prog Try.f47 S1 (h47_x F0 n) n (h47_b F0) := by intro _ _ _; kernel_rfl
theorem h47_good {α : Type} : ∀ n, GoodFn (α := α) Try.prog 47 (byShape S1.sh (callS S1 impl_Point_primitive n)) := good_of Try.func47 (by kernel_rfl) (by kernel_rfl) (by kernel_rfl) eqs_ok (fun n => h47_g impl_Point_length n) (by delta h47_b impl_Point_primitive; rfl) (allC h64_good allN) allN

/-! loop.example/g01297/impl.floor -/
abbrev h52_x {α : Type}  : Nat → Ctx α := ctxS M eqs jt0 [] []
def h52_b {α : Type}  (_ : Nat) (a : Int) (b_ : Int) (r0 : Int → Option α) : Option α :=
  bif decide (b_ = 0) then
    none
  else
  bif decide (b_ = 0) then
    none
  else
  bif (!decide ((Int.tmod a b_) = 0)) then
    bif (!(decide (a < 0) == decide (b_ < 0))) then
      r0 (w64 ((w64 (Int.tdiv a b_)) - 1))
    else
      r0 (w64 (Int.tdiv a b_))
  else
    r0 (w64 (Int.tdiv a b_))
theorem h52_g {α : Type}  (n : Nat) : GenF (α := α) Try.prog Try.f52 S12 (h52_x n) n (h52_b) := by intro _ _ _; kernel_rfl
theorem h52_good {α : Type} : ∀ n, GoodFn (α := α) Try.prog 52 (byShape S12.sh (callS S12 impl_floor n)) := good_of Try.func52 (by kernel_rfl) (by kernel_rfl) (by kernel_rfl) eqs_ok (fun n => h52_g n) (by delta h52_b impl_floor; rfl) allN allN

/-! loop.example/g01297/impl.mod -/
abbrev h65_x {α : Type} (F0 : T8 α) : Nat → Ctx α := ctxS M eqs jt0 [⟨52, S12, F0⟩] []
def h65_b {α : Type} (F0 : T8 α) (k : Nat) (a : Int) (b_ : Int) (r0 : Int → Option α) : Option α :=
  F0 k a b_ fun v =>
  r0 (w64 (a - (w64 (b_ * v))))
theorem h65_g {α : Type} (F0 : T8 α) (n : Nat) : GenF (α := α) Try.prog Try.f65 S12 (h65_x F0 n) n (h65_b F0) := by intro _ _ _; kernel_rfl
theorem h65_good {α : Type} : ∀ n, GoodFn (α := α) Try.prog 65 (byShape S12.sh (callS S12 impl_mod n)) := good_of Try.func65 (by kernel_rfl) (by kernel_rfl) (by kernel_rfl) eqs_ok (fun n => h65_g impl_floor n) (by delta h65_b impl_mod; rfl) (allC h52_good allN) allN

/-! loop.example/g01297/impl.bezout -/
def h66_t2 : Tpl := ⟨(.any :: (.int .i64 :: (.any :: (.any :: (.any :: (.int .i64 :: (.int .i64 :: (.int .i64 :: (.int .i64 :: (anyN 25 [])))))))))), [], [], false⟩
def h66_p2 : PcS := loopS [.int, .int, .int, .int, .int] [0]
abbrev h66_x {α : Type} (F0 : T8 α) (G2 : T35 α) : Nat → Ctx α := ctxS M eqs jt0 [⟨65, S12, F0⟩] [lpT 2 h66_t2 h66_p2 R0 G2]
def h66_b2 {α : Type} (G2 : T35 α) (k : Nat) (m1 : Int) (r_ : Int) (s : Int) (x : Int) (y : Int) (b0 : Int → Int → Int → Int → Int → Option α) (r0 : Int → Option α) : Option α :=
  bif (!decide (s = 0)) then
    bif decide (s = 0) then
      none
    else
      G2 k m1 s (w64 (r_ - (w64 ((w64 (Int.tdiv r_ s)) * s)))) y (w64 (x - (w64 ((w64 (Int.tdiv r_ s)) * y)))) b0 r0
  else
    b0 m1 r_ s x y
theorem h66_g2 {α : Type} (F0 : T8 α) (G2 : T35 α) (n : Nat) : GenL (α := α) Try.prog Try.f66 S12 (h66_x F0 G2 n) 2 h66_t2 h66_p2 n G2 (h66_b2 G2) := by intro _ _ _ _ _ _ _; kernel_rfl
def h66_b {α : Type} (F0 : T8 α) (G2 : T35 α) (k : Nat) (a : Int) (m : Int) (r0 : Int → Option α) : Option α :=
  F0 k a m fun v =>
  G2 k m v m 1 0
    (fun m2 _ _ x1 _ =>
      F0 k x1 m2 fun v1 =>
      r0 v1)
    r0
theorem h66_g {α : Type} (F0 : T8 α) (G2 : T35 α) (n : Nat) : GenF (α := α) Try.prog Try.f66 S12 (h66_x F0 G2 n) n (h66_b F0 G2) := by intro _ _ _; kernel_rfl
theorem h66_good {α : Type} : ∀ n, GoodFn (α := α) Try.prog 66 (byShape S12.sh (callS S12 impl_bezout n)) := good_of Try.func66 (by kernel_rfl) (by kernel_rfl) (by kernel_rfl) eqs_ok (fun n => h66_g impl_mod impl_bezout_l2 n) (by delta h66_b impl_bezout; rfl) (allC h65_good allN) (allC (loop_fine (by kernel_rfl) (fun n => by delta h66_b2; funext _ _ _ _ _ _ _; exact (impl_bezout_l2.eq_2 ..).symm) (fun n => h66_g2 impl_mod impl_bezout_l2 n)) allN)

/-! (loop.example/g01297/impl.Point).mate -/
abbrev h48_x {α : Type} (F0 : T34 α) (F1 : T8 α) (F2 : T8 α) : Nat → Ctx α := ctxS M eqs jt0 [⟨53, S27, F0⟩, ⟨66, S12, F1⟩, ⟨65, S12, F2⟩] []
def h48_b {α : Type} (F0 : T34 α) (F1 : T8 α) (F2 : T8 α) (k : Nat) (a : Int) (a1 : Int) (r0 : Int → Int → Option α) : Option α :=
  bif decide (a = 0) then
    r0 (w64 (0 - a1)) 0
  else
    F0 k a fun v =>
    F1 k a1 v fun v1 =>
    F0 k a fun v2 =>
    F2 k (w64 (0 - v1)) v2 fun v3 =>
    bif decide (a = 0) then
      none
    else
      r0 v3 (w64 (Int.tdiv (w64 (1 + (w64 (a1 * v3)))) a))
theorem h48_g {α : Type} (F0 : T34 α) (F1 : T8 α) (F2 : T8 α) (n : Nat) : GenF (α := α) Try.prog Try.f48 S1 (h48_x F0 F1 F2 n) n (h48_b F0 F1 F2) := by intro _ _ _; kernel_rfl
theorem h48_good {α : Type} : ∀ n, GoodFn (α := α) Try.prog 48 (byShape S1.sh (callS S1 impl_Point_mate n)) := good_of Try.func48 (by kernel_rfl) (by kernel_rfl) (by kernel_rfl) eqs_ok (fun n => h48_g impl_size impl_bezout impl_mod n) (by delta h48_b impl_Point_mate; rfl) (allC h53_good (allC h66_good (allC h65_good allN))) allN

/-! loop.example/g01297/impl.ledBy$1 -/
abbrev h49_x {α : Type} (F0 : T29 α) (F1 : T5 α) : Nat → Ctx α := ctxS M eqs jt0 [⟨46, S24, F0⟩, ⟨50, S7, F1⟩] []
def h49_b {α : Type} (F0 : T29 α) (F1 : T5 α) (k : Nat) (a : Int) (a1 : Int) (x : List (Int × Int)) (x1 : Int) (x2 : Int) (x3 : Int) (x4 : Int) (r0 : Int → Int → Option α) : Option α :=
  bif (true && decide (0 < (((List.length x) : Nat) : Int))) then
    (x[0]?).bind fun e_ =>
    bif (true && decide (0 < (((List.length x) : Nat) : Int))) then
      (x[0]?).bind fun e_1 =>
      F0 k a a1 e_.1 e_.2 fun v v1 =>
      F1 k v v1 x1 x2 fun v2 =>
      F0 k a a1 e_1.1 e_1.2 fun v3 v4 =>
      F1 k x3 x4 v3 v4 fun v5 =>
      r0 v2 v5
    else
      none
  else
    none
theorem h49_g {α : Type} (F0 : T29 α) (F1 : T5 α) (n : Nat) : GenF (α := α) Try.prog Try.f49 S28 (h49_x F0 F1 n) n (h49_b F0 F1) := by intro _ _ _ _ _ _ _ _; kernel_rfl
theorem h49_good {α : Type} : ∀ n, GoodFn (α := α) Try.prog 49 (byShape S28.sh (callS S28 impl_ledBy_1_1P_2P_3P n)) := good_of Try.func49 (by kernel_rfl) (by kernel_rfl) (by kernel_rfl) eqs_ok (fun n => h49_g impl_Point_less impl_det n) (by delta h49_b impl_ledBy_1_1P_2P_3P; rfl) (allC h46_good (allC h50_good allN)) allN

/-! loop.example/g01297/impl.sign -/
abbrev h51_x {α : Type}  : Nat → Ctx α := ctxS M eqs jt0 [] []
def h51_b {α : Type}  (_ : Nat) (n_ : Int) (r0 : Int → Option α) : Option α :=
  bif decide (n_ < 0) then
    r0 (-1)
  else
    r0 1
theorem h51_g {α : Type}  (n : Nat) : GenF (α := α) Try.prog Try.f51 S27 (h51_x n) n (h51_b) := by intro _ _; kernel_rfl
theorem h51_good {α : Type} : ∀ n, GoodFn (α := α) Try.prog 51 (byShape S27.sh (callS S27 impl_sign n)) := good_of Try.func51 (by kernel_rfl) (by kernel_rfl) (by kernel_rfl) eqs_ok (fun n => h51_g n) (by delta h51_b impl_sign; rfl) allN allN

/-! loop.example/g01297/impl.ledBy -/
def h25_t9 : Tpl := ⟨(anyN 5 (.fn 49 [.ptr 64 0 0, .ptr 256 0 0, .ptr 192 0 0] :: (anyN 4 (.int .i64 :: (.sl 2944 :: (.int .i64 :: (anyN 43 (.sl 0 :: (.int .i64 :: (.int .i64 :: (anyN 23 []))))))))))), [(64, .mix 2 26 [.sl 0]), (256, .ints 2 34 .i64 2), (192, .ints 2 34 .i64 2), (2944, .rows 2 34 .pt), (0, .rows 0 34 .pt)], [], false⟩
def h25_p9 : PcS := loopS [.int, .int, .int, .int, .int, .int, .int, .int, .rows .pt, .rows .pt] [0]
abbrev h25_x {α : Type} (F0 : T29 α) (F1 : T0 α) (F2 : T0 α) (F3 : T36 α) (F4 : T34 α) (F5 : T34 α) (F6 : T8 α) (G9 : T37 α) : Nat → Ctx α := ctxS M eqs jt0 [⟨46, S24, F0⟩, ⟨47, S1, F1⟩, ⟨48, S1, F2⟩, ⟨49, S28, F3⟩, ⟨51, S27, F4⟩, ⟨53, S27, F5⟩, ⟨52, S12, F6⟩] [lpT 9 h25_t9 h25_p9 R2 G9]
def h25_b9 {α : Type} (F3 : T36 α) (G9 : T37 α) (k : Nat) (way : Int) (by_ : Int) (x : Int) (x1 : Int) (b_ : Int) (b_1 : Int) (b_2 : Int) (b_3 : Int) (out : List (Int × Int)) (x2 : List (Int × Int)) (b0 : Int → Int → Int → Int → Int → Int → Int → Int → (List (Int × Int)) → (List (Int × Int)) → Option α) (r0 : (List (Int × Int)) → Option α) : Option α :=
  bif decide (x1 < x) then
    bif (decide (0 ≤ x1) && decide (x1 < (((List.length x2) : Nat) : Int))) then
      (x2[x1.toNat]?).bind fun e_4 =>
      F3 k e_4.1 e_4.2 x2 b_ b_1 b_2 b_3 fun v13 v14 =>
      bif decide (((List.length out) + 1) ≤ big) then
        G9 k way by_ x (w64 (x1 + 1)) b_ b_1 b_2 b_3 (out ++ [((w64 (v13 + (w64 (by_ * v14)))), (w64 (way * v14)))]) x2 b0 r0
      else
        none
    else
      none
  else
    b0 way by_ x x1 b_ b_1 b_2 b_3 out x2
theorem h25_g9 {α : Type} (F0 : T29 α) (F1 : T0 α) (F2 : T0 α) (F3 : T36 α) (F4 : T34 α) (F5 : T34 α) (F6 : T8 α) (G9 : T37 α) (n : Nat) : GenL (α := α) Try.prog Try.f25 S15 (h25_x F0 F1 F2 F3 F4 F5 F6 G9 n) 9 h25_t9 h25_p9 n G9 (h25_b9 F3 G9) := by intro _ _ _ _ _ _ _ _ _ _ _ _; kernel_rfl
def h25_b {α : Type} (F0 : T29 α) (F1 : T0 α) (F2 : T0 α) (F3 : T36 α) (F4 : T34 α) (F5 : T34 α) (F6 : T8 α) (G9 : T37 α) (k : Nat) (list : List (Int × Int)) (r0 : (List (Int × Int)) → Option α) : Option α :=
  bif (true && decide (1 < (((List.length list) : Nat) : Int))) then
    (list[1]?).bind fun e_ =>
    bif (true && decide (0 < (((List.length list) : Nat) : Int))) then
      (list[0]?).bind fun e_1 =>
      F0 k e_.1 e_.2 e_1.1 e_1.2 fun v v1 =>
      F1 k v v1 fun v2 v3 =>
      F2 k v2 v3 fun v4 v5 =>
      bif (true && decide (1 < (((List.length list) : Nat) : Int))) then
        (list[1]?).bind fun e_2 =>
        F3 k e_2.1 e_2.2 list v4 v5 v2 v3 fun v6 _ =>
        bif (true && decide (2 < (((List.length list) : Nat) : Int))) then
          (list[2]?).bind fun e_3 =>
          F3 k e_3.1 e_3.2 list v4 v5 v2 v3 fun v8 v9 =>
          F4 k v9 fun v10 =>
          F5 k v9 fun v11 =>
          F6 k (w64 (v8 - v6)) v11 fun v12 =>
          G9 k v10 (w64 ((w64 (0 - v10)) * v12)) (((List.length list) : Nat) : Int) 0 v4 v5 v2 v3 [] list
            (fun _ _ _ _ _ _ _ _ out1 _ =>
              r0 out1)
            r0
        else
          none
      else
        none
    else
      none
  else
    none
theorem h25_g {α : Type} (F0 : T29 α) (F1 : T0 α) (F2 : T0 α) (F3 : T36 α) (F4 : T34 α) (F5 : T34 α) (F6 : T8 α) (G9 : T37 α) (n : Nat) : GenF (α := α) Try.prog Try.f25 S15 (h25_x F0 F1 F2 F3 F4 F5 F6 G9 n) n (h25_b F0 F1 F2 F3 F4 F5 F6 G9) := by intro _ _; kernel_rfl
theorem h25_good {α : Type} : ∀ n, GoodFn (α := α) Try.prog 25 (byShape S15.sh (callS S15 impl_ledBy n)) := good_of Try.func25 (by kernel_rfl) (by kernel_rfl) (by kernel_rfl) eqs_ok (fun n => h25_g impl_Point_less impl_Point_primitive impl_Point_mate impl_ledBy_1_1P_2P_3P impl_sign impl_size impl_floor impl_ledBy_l9 n) (by delta h25_b impl_ledBy; rfl) (allC h46_good (allC h47_good (allC h48_good (allC h49_good (allC h51_good (allC h53_good (allC h52_good allN))))))) (allC (loop_fine (by kernel_rfl) (fun n => by delta h25_b9; funext _ _ _ _ _ _ _ _ _ _ _ _; exact (impl_ledBy_l9.eq_2 ..).symm) (fun n => h25_g9 impl_Point_less impl_Point_primitive impl_Point_mate impl_ledBy_1_1P_2P_3P impl_sign impl_size impl_floor impl_ledBy_l9 n)) allN)

/-! cmp.isNaN[int64] -/
abbrev h67_x {α : Type}  : Nat → Ctx α := ctxS M eqs jt0 [] []
def h67_b {α : Type}  (_ : Nat) (x : Int) (r0 : Bool → Option α) : Option α :=
  r0 (!decide (x = x))
theorem h67_g {α : Type}  (n : Nat) : GenF (α := α) Try.prog Try.f67 S4 (h67_x n) n (h67_b) := by intro _ _; kernel_rfl
theorem h67_good {α : Type} : ∀ n, GoodFn (α := α) Try.prog 67 (byShape S4.sh (callS S4 cmp_isNaN_int64 n)) := good_of Try.func67 (by kernel_rfl) (by kernel_rfl) (by kernel_rfl) eqs_ok (fun n => h67_g n) (by delta h67_b cmp_isNaN_int64; rfl) allN allN

/-! cmp.Compare[int64] -/
abbrev h56_x {α : Type} (F0 : T3 α) : Nat → Ctx α := ctxS M eqs jt0 [⟨67, S4, F0⟩] []
def h56_b {α : Type} (F0 : T3 α) (k : Nat) (x : Int) (y : Int) (r0 : Int → Option α) : Option α :=
  F0 k x fun v =>
  F0 k y fun v1 =>
  bif v then
    bif v1 then
      r0 0
    else
      r0 (-1)
  else
  bif v1 then
    r0 1
  else
  bif decide (x < y) then
    r0 (-1)
  else
  bif decide (y < x) then
    r0 1
  else
    r0 0
theorem h56_g {α : Type} (F0 : T3 α) (n : Nat) : GenF (α := α) Try.prog Try.f56 S12 (h56_x F0 n) n (h56_b F0) := by intro _ _ _; kernel_rfl
theorem h56_good {α : Type} : ∀ n, GoodFn (α := α) Try.prog 56 (byShape S12.sh (callS S12 cmp_Compare_int64 n)) := good_of Try.func56 (by kernel_rfl) (by kernel_rfl) (by kernel_rfl) eqs_ok (fun n => h56_g cmp_isNaN_int64 n) (by delta h56_b cmp_Compare_int64; rfl) (allC h67_good allN) allN

/-! cmp.Or[int] -/
def h55_t3 : Tpl := ⟨(.any :: (.any :: (.any :: (.int .i64 :: (.any :: (.any :: (.sl 0 :: (.int .i64 :: (.int .i64 :: (anyN 9 [])))))))))), [(0, .rows 0 3 (.int .i64))], [], false⟩
def h55_p3 : PcS := loopS [.int, .int, .int, .rows (.int .i64)] [0]
abbrev h55_x {α : Type} (G3 : T38 α) : Nat → Ctx α := ctxS M eqs jt0 [] [lpT 3 h55_t3 h55_p3 R0 G3]
def h55_b3 {α : Type} (G3 : T38 α) (k : Nat) (zero : Int) (x : Int) (x1 : Int) (x2 : List Int) (b0 : Int → Int → Int → List Int → Option α) (r0 : Int → Option α) : Option α :=
  bif decide (x1 < x) then
    bif (decide (0 ≤ x1) && decide (x1 < (((List.length x2) : Nat) : Int))) then
      (x2[x1.toNat]?).bind fun e_ =>
      bif (!decide (e_ = zero)) then
        r0 e_
      else
        G3 k zero x (w64 (x1 + 1)) x2 b0 r0
    else
      none
  else
    b0 zero x x1 x2
theorem h55_g3 {α : Type} (G3 : T38 α) (n : Nat) : GenL (α := α) Try.prog Try.f55 S29 (h55_x G3 n) 3 h55_t3 h55_p3 n G3 (h55_b3 G3) := by intro _ _ _ _ _ _; kernel_rfl
def h55_b {α : Type} (G3 : T38 α) (k : Nat) (vals : List Int) (r0 : Int → Option α) : Option α :=
  G3 k 0 (((List.length vals) : Nat) : Int) 0 vals
    (fun zero1 _ _ _ =>
      r0 zero1)
    r0
theorem h55_g {α : Type} (G3 : T38 α) (n : Nat) : GenF (α := α) Try.prog Try.f55 S29 (h55_x G3 n) n (h55_b G3) := by intro _ _; kernel_rfl
theorem h55_good {α : Type} : ∀ n, GoodFn (α := α) Try.prog 55 (byShape S29.sh (callS S29 cmp_Or_int n)) := good_of Try.func55 (by kernel_rfl) (by kernel_rfl) (by kernel_rfl) eqs_ok (fun n => h55_g cmp_Or_int_l3 n) (by delta h55_b cmp_Or_int; rfl) allN (allC (loop_fine (by kernel_rfl) (fun n => by delta h55_b3; funext _ _ _ _ _ _; exact (cmp_Or_int_l3.eq_2 ..).symm) (fun n => h55_g3 cmp_Or_int_l3 n)) allN)

/-! loop.example/g01297/impl.pointOrder -/
abbrev h28_x {α : Type} (F0 : T8 α) (F1 : T39 α) : Nat → Ctx α := ctxS M eqs jt0 [⟨56, S12, F0⟩, ⟨55, S29, F1⟩] []
def h28_b {α : Type} (F0 : T8 α) (F1 : T39 α) (k : Nat) (a : Int) (a1 : Int) (b_ : Int) (b_1 : Int) (r0 : Int → Option α) : Option α :=
  F0 k a b_ fun v =>
  F0 k a1 b_1 fun v1 =>
  F1 k [v, v1] fun v2 =>
  r0 v2
theorem h28_g {α : Type} (F0 : T8 α) (F1 : T39 α) (n : Nat) : GenF (α := α) Try.prog Try.f28 S7 (h28_x F0 F1 n) n (h28_b F0 F1) := by intro _ _ _ _ _; kernel_rfl
theorem h28_good {α : Type} : ∀ n, GoodFn (α := α) Try.prog 28 (byShape S7.sh (callS S7 impl_pointOrder n)) := good_of Try.func28 (by kernel_rfl) (by kernel_rfl) (by kernel_rfl) eqs_ok (fun n => h28_g cmp_Compare_int64 cmp_Or_int n) (by delta h28_b impl_pointOrder; rfl) (allC h56_good (allC h55_good allN)) allN

/-! slices.CompareFunc[[]loop.example/g01297/impl.Point,[]loop.example/g01297/impl.Point,loop.example/g01297/impl.Point,loop.example/g01297/impl.Point] -/
def h27_t2 : Tpl := ⟨(.sl 0 :: (.sl 64 :: (.fn 28 [] :: (anyN 8 (.sl 0 :: (.int .i64 :: (.int .i64 :: (anyN 25 [])))))))), [(0, .rows 0 34 .pt), (64, .rows 0 34 .pt)], [], false⟩
def h27_p2 : PcS := loopS [.int, .int, .rows .pt, .rows .pt] [0]
abbrev h27_x {α : Type} (F0 : T5 α) (G2 : T40 α) : Nat → Ctx α := ctxS M eqs jt0 [⟨28, S7, F0⟩] [lpT 2 h27_t2 h27_p2 R0 G2]
def h27_b2 {α : Type} (F0 : T5 α) (G2 : T40 α) (k : Nat) (x : Int) (x1 : Int) (s11 : List (Int × Int)) (s21 : List (Int × Int)) (b0 : Int → Int → (List (Int × Int)) → (List (Int × Int)) → Option α) (r0 : Int → Option α) : Option α :=
  bif decide (x1 < x) then
    bif (decide (0 ≤ x1) && decide (x1 < (((List.length s11) : Nat) : Int))) then
      (s11[x1.toNat]?).bind fun e_ =>
      bif decide ((((List.length s21) : Nat) : Int) ≤ x1) then
        r0 1
      else
      bif (decide (0 ≤ x1) && decide (x1 < (((List.length s21) : Nat) : Int))) then
        (s21[x1.toNat]?).bind fun e_1 =>
        F0 k e_.1 e_.2 e_1.1 e_1.2 fun v =>
        bif (!decide (v = 0)) then
          r0 v
        else
          G2 k x (w64 (x1 + 1)) s11 s21 b0 r0
      else
        none
    else
      none
  else
    b0 x x1 s11 s21
theorem h27_g2 {α : Type} (F0 : T5 α) (G2 : T40 α) (n : Nat) : GenL (α := α) Try.prog Try.f27 S30 (h27_x F0 G2 n) 2 h27_t2 h27_p2 n G2 (h27_b2 F0 G2) := by intro _ _ _ _ _ _; kernel_rfl
def h27_b {α : Type} (G2 : T40 α) (k : Nat) (s1 : List (Int × Int)) (s2 : List (Int × Int)) (r0 : Int → Option α) : Option α :=
  G2 k (((List.length s1) : Nat) : Int) 0 s1 s2
    (fun _ _ s12 s22 =>
      bif decide ((((List.length s12) : Nat) : Int) < (((List.length s22) : Nat) : Int)) then
        r0 (-1)
      else
        r0 0)
    r0
theorem h27_g {α : Type} (F0 : T5 α) (G2 : T40 α) (n : Nat) : GenF (α := α) Try.prog Try.f27 S30 (h27_x F0 G2 n) n (h27_b G2) := by intro _ _ _; kernel_rfl
theorem h27_good {α : Type} : ∀ n, GoodFn (α := α) Try.prog 27 (byShape S30.sh (callS S30 slices_CompareFunc_impl_Point_impl_Point_impl_Point_impl_Point_2F_impl_pointOrder n)) := good_of Try.func27 (by kernel_rfl) (by kernel_rfl) (by kernel_rfl) eqs_ok (fun n => h27_g impl_pointOrder slices_CompareFunc_impl_Point_impl_Point_impl_Point_impl_Point_2F_impl_pointOrder_l2 n) (by delta h27_b slices_CompareFunc_impl_Point_impl_Point_impl_Point_impl_Point_2F_impl_pointOrder; rfl) (allC h28_good allN) (allC (loop_fine (by kernel_rfl) (fun n => by delta h27_b2; funext _ _ _ _ _ _; exact (slices_CompareFunc_impl_Point_impl_Point_impl_Point_impl_Point_2F_impl_pointOrder_l2.eq_2 ..).symm) (fun n => h27_g2 impl_pointOrder slices_CompareFunc_impl_Point_impl_Point_impl_Point_impl_Point_2F_impl_pointOrder_l2 n)) allN)

/-! slices.Clone[loop.example/g01297/impl.polygon,loop.example/g01297/impl.Point] -/
abbrev h29_x {α : Type}  : Nat → Ctx α := ctxS M eqs jt0 [] []
def h29_b {α : Type}  (_ : Nat) (s : List (Int × Int)) (r0 : (List (Int × Int)) → Option α) : Option α :=
  bif Nat.beq (List.length s) 0 then
    none
  else
  bif decide ((0 + (List.length s)) ≤ big) then
    r0 ([] ++ s)
  else
    none
theorem h29_g {α : Type}  (n : Nat) : GenF (α := α) Try.prog Try.f29 S15 (h29_x n) n (h29_b) := by intro _ _; kernel_rfl
theorem h29_good {α : Type} : ∀ n, GoodFn (α := α) Try.prog 29 (byShape S15.sh (callS S15 slices_Clone_impl_polygon_impl_Point n)) := good_of Try.func29 (by kernel_rfl) (by kernel_rfl) (by kernel_rfl) eqs_ok (fun n => h29_g n) (by delta h29_b slices_Clone_impl_polygon_impl_Point; rfl) allN allN

/-! slices.Reverse[loop.example/g01297/impl.polygon,loop.example/g01297/impl.Point] -/
def h30_t1 : Tpl := ⟨(.sl 0 :: (.any :: (.int .i64 :: (.int .i64 :: (anyN 24 []))))), [(0, .rows 1 34 .pt)], [], false⟩
def h30_p1 : PcS := loopS [.int, .int, .rows .pt] [0]
abbrev h30_x {α : Type} (G1 : T41 α) : Nat → Ctx α := ctxS M eqs jt0 [] [lpT 1 h30_t1 h30_p1 R9 G1]
def h30_b1 {α : Type} (G1 : T41 α) (k : Nat) (i : Int) (j : Int) (s1 : List (Int × Int)) (b0 : Int → Int → (List (Int × Int)) → Option α) (r0 : (List (Int × Int)) → Option α) : Option α :=
  bif decide (i < j) then
    bif (decide (0 ≤ j) && decide (j < (((List.length s1) : Nat) : Int))) then
      (s1[j.toNat]?).bind fun e_ =>
      bif (decide (0 ≤ i) && decide (i < (((List.length s1) : Nat) : Int))) then
        (s1[i.toNat]?).bind fun e_1 =>
        bif (decide (0 ≤ i) && decide (i < (((List.length s1) : Nat) : Int))) then
          (s1[i.toNat]?).bind fun _ =>
          bif (decide (0 ≤ j) && decide (j < (((List.length (List.set s1 i.toNat (e_.1, e_.2))) : Nat) : Int))) then
            ((List.set s1 i.toNat (e_.1, e_.2))[j.toNat]?).bind fun _ =>
            G1 k (w64 (i + 1)) (w64 (j - 1)) (List.set (List.set s1 i.toNat (e_.1, e_.2)) j.toNat (e_1.1, e_1.2)) b0 r0
          else
            none
        else
          none
      else
        none
    else
      none
  else
    b0 i j s1
theorem h30_g1 {α : Type} (G1 : T41 α) (n : Nat) : GenL (α := α) Try.prog Try.f30 S31 (h30_x G1 n) 1 h30_t1 h30_p1 n G1 (h30_b1 G1) := by intro _ _ _ _ _ _; kernel_rfl
def h30_b {α : Type} (G1 : T41 α) (k : Nat) (s : List (Int × Int)) (r0 : (List (Int × Int)) → Option α) : Option α :=
  G1 k 0 (w64 ((((List.length s) : Nat) : Int) - 1)) s
    (fun _ _ s2 =>
      r0 s2)
    r0
theorem h30_g {α : Type} (G1 : T41 α) (n : Nat) : GenF (α := α) Try.prog Try.f30 S31 (h30_x G1 n) n (h30_b G1) := by intro _ _; kernel_rfl
theorem h30_good {α : Type} : ∀ n, GoodFn (α := α) Try.prog 30 (byShape S31.sh (callS S31 slices_Reverse_impl_polygon_impl_Point n)) := good_of Try.func30 (by kernel_rfl) (by kernel_rfl) (by kernel_rfl) eqs_ok (fun n => h30_g slices_Reverse_impl_polygon_impl_Point_l1 n) (by delta h30_b slices_Reverse_impl_polygon_impl_Point; rfl) allN (allC (loop_fine (by kernel_rfl) (fun n => by delta h30_b1; funext _ _ _ _ _; exact (slices_Reverse_impl_polygon_impl_Point_l1.eq_2 ..).symm) (fun n => h30_g1 slices_Reverse_impl_polygon_impl_Point_l1 n)) allN)

/-! loop.example/g01297/impl.isCoord -/
abbrev h68_x {α : Type} (F0 : T2 α) : Nat → Ctx α := ctxS M eqs jt0 [⟨20, S3, F0⟩] []
def h68_b {α : Type} (F0 : T2 α) (k : Nat) (n_ : Int) (r0 : Bool → Option α) : Option α :=
  F0 k n_ (-1000000) 1000000 fun v =>
  r0 v
theorem h68_g {α : Type} (F0 : T2 α) (n : Nat) : GenF (α := α) Try.prog Try.f68 S4 (h68_x F0 n) n (h68_b F0) := by intro _ _; kernel_rfl
theorem h68_good {α : Type} : ∀ n, GoodFn (α := α) Try.prog 68 (byShape S4.sh (callS S4 impl_isCoord n)) := good_of Try.func68 (by kernel_rfl) (by kernel_rfl) (by kernel_rfl) eqs_ok (fun n => h68_g impl_in n) (by delta h68_b impl_isCoord; rfl) (allC h20_good allN) allN

/-! loop.example/g01297/impl.IsPoint -/
abbrev h58_x {α : Type} (F0 : T3 α) : Nat → Ctx α := ctxS M eqs jt0 [⟨68, S4, F0⟩] []
def h58_b {α : Type} (F0 : T3 α) (k : Nat) (a : Int) (a1 : Int) (r0 : Bool → Option α) : Option α :=
  F0 k a fun v =>
  bif v then
    F0 k a1 fun v1 =>
    r0 v1
  else
    r0 false
theorem h58_g {α : Type} (F0 : T3 α) (n : Nat) : GenF (α := α) Try.prog Try.f58 S5 (h58_x F0 n) n (h58_b F0) := by intro _ _ _; kernel_rfl
theorem h58_good {α : Type} : ∀ n, GoodFn (α := α) Try.prog 58 (byShape S5.sh (callS S5 impl_IsPoint n)) := good_of Try.func58 (by kernel_rfl) (by kernel_rfl) (by kernel_rfl) eqs_ok (fun n => h58_g impl_isCoord n) (by delta h58_b impl_IsPoint; rfl) (allC h68_good allN) allN

/-! loop.example/g01297/impl.points$1 -/
abbrev h57_x {α : Type} (F0 : T6 α) : Nat → Ctx α := ctxS M eqs jt0 [⟨58, S5, F0⟩] []
def h57_b {α : Type} (F0 : T6 α) (k : Nat) (a : Int) (a1 : Int) (r0 : Bool → Option α) : Option α :=
  F0 k a a1 fun v =>
  r0 (!v)
theorem h57_g {α : Type} (F0 : T6 α) (n : Nat) : GenF (α := α) Try.prog Try.f57 S5 (h57_x F0 n) n (h57_b F0) := by intro _ _ _; kernel_rfl
theorem h57_good {α : Type} : ∀ n, GoodFn (α := α) Try.prog 57 (byShape S5.sh (callS S5 impl_points_1 n)) := good_of Try.func57 (by kernel_rfl) (by kernel_rfl) (by kernel_rfl) eqs_ok (fun n => h57_g impl_IsPoint n) (by delta h57_b impl_points_1; rfl) (allC h58_good allN) allN

/-! slices.IndexFunc[[]loop.example/g01297/impl.Point,loop.example/g01297/impl.Point] -/
def h43a_t2 : Tpl := ⟨(.sl 0 :: (.fn 57 [] :: (anyN 5 (.int .i64 :: (.int .i64 :: (anyN 10 [])))))), [(0, .rows 0 34 .pt)], [], false⟩
def h43a_p2 : PcS := loopS [.int, .int, .rows .pt] [0]
abbrev h43a_x {α : Type} (F0 : T6 α) (G2 : T28 α) : Nat → Ctx α := ctxS M eqs jt0 [⟨57, S5, F0⟩] [lpT 2 h43a_t2 h43a_p2 R0 G2]
def h43a_b2 {α : Type} (F0 : T6 α) (G2 : T28 α) (k : Nat) (x : Int) (x1 : Int) (s1 : List (Int × Int)) (b0 : Int → Int → (List (Int × Int)) → Option α) (r0 : Int → Option α) : Option α :=
  bif decide (x1 < x) then
    bif (decide (0 ≤ x1) && decide (x1 < (((List.length s1) : Nat) : Int))) then
      (s1[x1.toNat]?).bind fun e_ =>
      F0 k e_.1 e_.2 fun v =>
      bif v then
        r0 x1
      else
        G2 k x (w64 (x1 + 1)) s1 b0 r0
    else
      none
  else
    b0 x x1 s1
theorem h43a_g2 {α : Type} (F0 : T6 α) (G2 : T28 α) (n : Nat) : GenL (α := α) Try.prog Try.f43 S32 (h43a_x F0 G2 n) 2 h43a_t2 h43a_p2 n G2 (h43a_b2 F0 G2) := by intro _ _ _ _ _; kernel_rfl
def h43a_b {α : Type} (G2 : T28 α) (k : Nat) (s : List (Int × Int)) (r0 : Int → Option α) : Option α :=
  G2 k (((List.length s) : Nat) : Int) 0 s
    (fun _ _ _ =>
      r0 (-1))
    r0
theorem h43a_g {α : Type} (F0 : T6 α) (G2 : T28 α) (n : Nat) : GenF (α := α) Try.prog Try.f43 S32 (h43a_x F0 G2 n) n (h43a_b G2) := by intro _ _; kernel_rfl
theorem h43a_good {α : Type} : ∀ n, GoodFn (α := α) Try.prog 43 (byShape S32.sh (callS S32 slices_IndexFunc_impl_Point_impl_Point_1F_impl_points_1 n)) := good_of Try.func43 (by kernel_rfl) (by kernel_rfl) (by kernel_rfl) eqs_ok (fun n => h43a_g impl_points_1 slices_IndexFunc_impl_Point_impl_Point_1F_impl_points_1_l2 n) (by delta h43a_b slices_IndexFunc_impl_Point_impl_Point_1F_impl_points_1; rfl) (allC h57_good allN) (allC (loop_fine (by kernel_rfl) (fun n => by delta h43a_b2; funext _ _ _ _ _; exact (slices_IndexFunc_impl_Point_impl_Point_1F_impl_points_1_l2.eq_2 ..).symm) (fun n => h43a_g2 impl_points_1 slices_IndexFunc_impl_Point_impl_Point_1F_impl_points_1_l2 n)) allN)

/-! slices.ContainsFunc[[]loop.example/g01297/impl.Point,loop.example/g01297/impl.Point] -/
abbrev h21a_x {α : Type} (F0 : T21 α) : Nat → Ctx α := ctxS M eqs jt0 [⟨43, S32, F0⟩] []
def h21a_b {α : Type} (F0 : T21 α) (k : Nat) (s : List (Int × Int)) (r0 : Bool → Option α) : Option α :=
  F0 k s fun v =>
  r0 (decide (0 ≤ v))
theorem h21a_g {α : Type} (F0 : T21 α) (n : Nat) : GenF (α := α) Try.prog Try.f21 S33 (h21a_x F0 n) n (h21a_b F0) := by intro _ _; kernel_rfl
theorem h21a_good {α : Type} : ∀ n, GoodFn (α := α) Try.prog 21 (byShape S33.sh (callS S33 slices_ContainsFunc_impl_Point_impl_Point_1F_impl_points_1 n)) := good_of Try.func21 (by kernel_rfl) (by kernel_rfl) (by kernel_rfl) eqs_ok (fun n => h21a_g slices_IndexFunc_impl_Point_impl_Point_1F_impl_points_1 n) (by delta h21a_b slices_ContainsFunc_impl_Point_impl_Point_1F_impl_points_1; rfl) (allC h43a_good allN) allN

/-! loop.example/g01297/impl.points -/
abbrev h31_x {α : Type} (F0 : T10 α) : Nat → Ctx α := ctxS M eqs jt0 [⟨21, S33, F0⟩] []
def h31_b {α : Type} (F0 : T10 α) (k : Nat) (list : List (Int × Int)) (r0 : Bool → Option α) : Option α :=
  F0 k list fun v =>
  r0 (!v)
theorem h31_g {α : Type} (F0 : T10 α) (n : Nat) : GenF (α := α) Try.prog Try.f31 S10 (h31_x F0 n) n (h31_b F0) := by intro _ _; kernel_rfl
theorem h31_good {α : Type} : ∀ n, GoodFn (α := α) Try.prog 31 (byShape S10.sh (callS S10 impl_points n)) := good_of Try.func31 (by kernel_rfl) (by kernel_rfl) (by kernel_rfl) eqs_ok (fun n => h31_g slices_ContainsFunc_impl_Point_impl_Point_1F_impl_points_1 n) (by delta h31_b impl_points; rfl) (allC h21a_good allN) allN

/-! slices.IndexFunc[[]loop.example/g01297/impl.Point,loop.example/g01297/impl.Point] -/
abbrev h43b_x {α : Type}  : Nat → Ctx α := ctxS M eqs jt0 [] []
def h43b_b {α : Type}  (_ : Nat) (r0 : Int → Option α) : Option α :=
  r0 (-1)
theorem h43b_g {α : Type}  (n : Nat) : GenF (α := α) Try.prog Try.f43 S34 (h43b_x n) n (h43b_b) := by intro _; kernel_rfl
theorem h43b_good {α : Type} : ∀ n, GoodFn (α := α) Try.prog 43 (byShape S34.sh (callS S34 slices_IndexFunc_impl_Point_impl_Point_0N_1F_impl_points_1 n)) := good_of Try.func43 (by kernel_rfl) (by kernel_rfl) (by kernel_rfl) eqs_ok (fun n => h43b_g n) (by delta h43b_b slices_IndexFunc_impl_Point_impl_Point_0N_1F_impl_points_1; rfl) allN allN

/-! slices.ContainsFunc[[]loop.example/g01297/impl.Point,loop.example/g01297/impl.Point] -/
abbrev h21b_x {α : Type} (F0 : T42 α) : Nat → Ctx α := ctxS M eqs jt0 [⟨43, S34, F0⟩] []
def h21b_b {α : Type} (F0 : T42 α) (k : Nat) (r0 : Bool → Option α) : Option α :=
  F0 k fun v =>
  r0 (decide (0 ≤ v))
theorem h21b_g {α : Type} (F0 : T42 α) (n : Nat) : GenF (α := α) Try.prog Try.f21 S35 (h21b_x F0 n) n (h21b_b F0) := by intro _; kernel_rfl
theorem h21b_good {α : Type} : ∀ n, GoodFn (α := α) Try.prog 21 (byShape S35.sh (callS S35 slices_ContainsFunc_impl_Point_impl_Point_0N_1F_impl_points_1 n)) := good_of Try.func21 (by kernel_rfl) (by kernel_rfl) (by kernel_rfl) eqs_ok (fun n => h21b_g slices_IndexFunc_impl_Point_impl_Point_0N_1F_impl_points_1 n) (by delta h21b_b slices_ContainsFunc_impl_Point_impl_Point_0N_1F_impl_points_1; rfl) (allC h43b_good allN) allN

/-! loop.example/g01297/impl.points -/
abbrev h31a_x {α : Type} (F0 : T43 α) : Nat → Ctx α := ctxS M eqs jt0 [⟨21, S35, F0⟩] []
def h31a_b {α : Type} (F0 : T43 α) (k : Nat) (r0 : Bool → Option α) : Option α :=
  F0 k fun v =>
  r0 (!v)
theorem h31a_g {α : Type} (F0 : T43 α) (n : Nat) : GenF (α := α) Try.prog Try.f31 S36 (h31a_x F0 n) n (h31a_b F0) := by intro _; kernel_rfl
theorem h31a_good {α : Type} : ∀ n, GoodFn (α := α) Try.prog 31 (byShape S36.sh (callS S36 impl_points_0N n)) := good_of Try.func31 (by kernel_rfl) (by kernel_rfl) (by kernel_rfl) eqs_ok (fun n => h31a_g slices_ContainsFunc_impl_Point_impl_Point_0N_1F_impl_points_1 n) (by delta h31a_b impl_points_0N; rfl) (allC h21b_good allN) allN

/-! (loop.example/g01297/impl.polygon).normal -/
def h13_t5 : Tpl := ⟨(.sl 0 :: (.any :: (.any :: (.any :: (.sl 2944 :: (.any :: (.any :: (.lit .i64 0 :: (.any :: (.any :: (.int .i64 :: (.int .i64 :: (anyN 30 []))))))))))))), [(0, .rows 0 34 .pt), (2944, .rows 2 34 .pt)], [(4, 2944, 34, .pt)], true⟩
def h13_p5 : PcS := loopS [.int, .int, .rows .pt, .rows .pt] [2]
def h13_t100005 : Tpl := ⟨(.sl 2176 :: (.any :: (.any :: (.any :: (.sl 66944 :: (.any :: (.any :: (.lit .i64 1 :: (.any :: (.any :: (.int .i64 :: (.int .i64 :: (anyN 30 []))))))))))))), [(2176, .rows 2 34 .pt), (66944, .rows 2 34 .pt)], [(4, 66944, 34, .pt)], false⟩
def h13_p100005 : PcS := loopS [.int, .int, .rows .pt, .rows .pt] [2]
abbrev h13_x {α : Type} (F0 : T44 α) (F1 : T19 α) (F2 : T25 α) (F3 : T19 α) (F4 : T19 α) (F5 : T10 α) (F6 : T43 α) (G5 : T45 α) (G100005 : T45 α) : Nat → Ctx α := ctxS M eqs jt0 [⟨26, S26, F0⟩, ⟨25, S15, F1⟩, ⟨27, S30, F2⟩, ⟨29, S15, F3⟩, ⟨30, S31, F4⟩, ⟨31, S10, F5⟩, ⟨31, S36, F6⟩] [lpT 5 h13_t5 h13_p5 R10 G5, lpT 100005 h13_t100005 h13_p100005 R10 G100005]
def h13_b5 {α : Type} (F0 : T44 α) (F1 : T19 α) (F2 : T25 α) (G5 : T45 α) (k : Nat) (x : Int) (x1 : Int) (p_1 : List (Int × Int)) (best : List (Int × Int)) (b2 : Int → Int → (List (Int × Int)) → (List (Int × Int)) → Option α) (r0 : Int → Option α) (r1 : (List (Int × Int)) → Int → Option α) : Option α :=
  bif decide (x1 < x) then
    bif (decide (0 ≤ x1) && decide (x1 ≤ (((List.length p_1) : Nat) : Int))) then
      bif (decide (0 ≤ x1) && decide (x1 ≤ (((List.length p_1) : Nat) : Int))) then
        F0 k (List.take ((List.length p_1) - x1.toNat) (List.drop x1.toNat p_1)) (List.take (x1.toNat - 0) (List.drop 0 p_1)) fun v2 =>
        F1 k v2 fun v3 =>
        bif Nat.beq (List.length best) 0 then
          none
        else
          F2 k v3 best fun v4 =>
          bif decide (v4 < 0) then
            G5 k x (w64 (x1 + 1)) p_1 v3 b2 r0 r1
          else
            G5 k x (w64 (x1 + 1)) p_1 best b2 r0 r1
      else
        none
    else
      none
  else
    b2 x x1 p_1 best
theorem h13_g5 {α : Type} (F0 : T44 α) (F1 : T19 α) (F2 : T25 α) (F3 : T19 α) (F4 : T19 α) (F5 : T10 α) (F6 : T43 α) (G5 : T45 α) (G100005 : T45 α) (n : Nat) : GenL (α := α) Try.prog Try.f13 S37 (h13_x F0 F1 F2 F3 F4 F5 F6 G5 G100005 n) 5 h13_t5 h13_p5 n G5 (h13_b5 F0 F1 F2 G5) := by intro _ _ _ _ _ _; kernel_rfl
def h13_b100005 {α : Type} (F0 : T44 α) (F1 : T19 α) (F2 : T25 α) (G100005 : T45 α) (k : Nat) (x4 : Int) (x5 : Int) (p_3 : List (Int × Int)) (best2 : List (Int × Int)) (b2 : Int → Int → (List (Int × Int)) → (List (Int × Int)) → Option α) (r0 : Int → Option α) (r1 : (List (Int × Int)) → Int → Option α) : Option α :=
  bif decide (x5 < x4) then
    bif (decide (0 ≤ x5) && decide (x5 ≤ (((List.length p_3) : Nat) : Int))) then
      bif (decide (0 ≤ x5) && decide (x5 ≤ (((List.length p_3) : Nat) : Int))) then
        F0 k (List.take ((List.length p_3) - x5.toNat) (List.drop x5.toNat p_3)) (List.take (x5.toNat - 0) (List.drop 0 p_3)) fun v10 =>
        F1 k v10 fun v11 =>
        bif Nat.beq (List.length best2) 0 then
          none
        else
          F2 k v11 best2 fun v12 =>
          bif decide (v12 < 0) then
            G100005 k x4 (w64 (x5 + 1)) p_3 v11 b2 r0 r1
          else
            G100005 k x4 (w64 (x5 + 1)) p_3 best2 b2 r0 r1
      else
        none
    else
      none
  else
    b2 x4 x5 p_3 best2
theorem h13_g100005 {α : Type} (F0 : T44 α) (F1 : T19 α) (F2 : T25 α) (F3 : T19 α) (F4 : T19 α) (F5 : T10 α) (F6 : T43 α) (G5 : T45 α) (G100005 : T45 α) (n : Nat) : GenL (α := α) Try.prog Try.f13 S37 (h13_x F0 F1 F2 F3 F4 F5 F6 G5 G100005 n) 100005 h13_t100005 h13_p100005 n G100005 (h13_b100005 F0 F1 F2 G100005) := by intro _ _ _ _ _ _; kernel_rfl
def h13_b {α : Type} (F0 : T44 α) (F1 : T19 α) (F2 : T25 α) (F3 : T19 α) (F4 : T19 α) (F5 : T10 α) (F6 : T43 α) (G5 : T45 α) (G100005 : T45 α) (k : Nat) (p_ : List (Int × Int)) (r0 : Int → Option α) (r1 : (List (Int × Int)) → Int → Option α) : Option α :=
  bif decide (0 < (((List.length p_) : Nat) : Int)) then
    bif (true && decide (0 ≤ (((List.length p_) : Nat) : Int))) then
      bif (true && decide (0 ≤ (((List.length p_) : Nat) : Int))) then
        F0 k (List.take ((List.length p_) - 0) (List.drop 0 p_)) (List.take 0 (List.drop 0 p_)) fun v =>
        F1 k v fun v1 =>
        G5 k (((List.length p_) : Nat) : Int) 1 p_ v1
          (fun _ _ p_2 best1 =>
            F3 k p_2 fun v5 =>
            F4 k v5 fun v6 =>
            bif decide (0 < (((List.length v6) : Nat) : Int)) then
              bif (true && decide (0 ≤ (((List.length v6) : Nat) : Int))) then
                bif (true && decide (0 ≤ (((List.length v6) : Nat) : Int))) then
                  F0 k (List.take ((List.length v6) - 0) (List.drop 0 v6)) (List.take 0 (List.drop 0 v6)) fun v7 =>
                  F1 k v7 fun v8 =>
                  bif Nat.beq (List.length best1) 0 then
                    none
                  else
                    F2 k v8 best1 fun v9 =>
                    bif decide (v9 < 0) then
                      G100005 k (((List.length v6) : Nat) : Int) 1 v6 v8
                        (fun _ _ p_4 best3 =>
                          F3 k p_4 fun v13 =>
                          F4 k v13 fun _ =>
                          F5 k best3 fun v15 =>
                          bif (!v15) then
                            r0 3
                          else
                            r1 best3 0)
                        r0 r1
                    else
                      G100005 k (((List.length v6) : Nat) : Int) 1 v6 best1
                        (fun _ _ p_5 best4 =>
                          F3 k p_5 fun v16 =>
                          F4 k v16 fun _ =>
                          F5 k best4 fun v18 =>
                          bif (!v18) then
                            r0 3
                          else
                            r1 best4 0)
                        r0 r1
                else
                  none
              else
                none
            else
              F3 k v6 fun v19 =>
              F4 k v19 fun _ =>
              F5 k best1 fun v21 =>
              bif (!v21) then
                r0 3
              else
                r1 best1 0)
          r0 r1
      else
        none
    else
      none
  else
    F3 k p_ fun v22 =>
    F4 k v22 fun v23 =>
    bif decide (0 < (((List.length v23) : Nat) : Int)) then
      bif (true && decide (0 ≤ (((List.length v23) : Nat) : Int))) then
        bif (true && decide (0 ≤ (((List.length v23) : Nat) : Int))) then
          F0 k (List.take ((List.length v23) - 0) (List.drop 0 v23)) (List.take 0 (List.drop 0 v23)) fun v24 =>
          F1 k v24 fun v25 =>
          G100005 k (((List.length v23) : Nat) : Int) 1 v23 v25
            (fun _ _ p_6 best5 =>
              F3 k p_6 fun v26 =>
              F4 k v26 fun _ =>
              F5 k best5 fun v28 =>
              bif (!v28) then
                r0 3
              else
                r1 best5 0)
            r0 r1
        else
          none
      else
        none
    else
      F3 k v23 fun v29 =>
      F4 k v29 fun _ =>
      F6 k fun v31 =>
      bif (!v31) then
        r0 3
      else
        r0 0
theorem h13_g {α : Type} (F0 : T44 α) (F1 : T19 α) (F2 : T25 α) (F3 : T19 α) (F4 : T19 α) (F5 : T10 α) (F6 : T43 α) (G5 : T45 α) (G100005 : T45 α) (n : Nat) : GenF (α := α) Try.prog Try.f13 S37 (h13_x F0 F1 F2 F3 F4 F5 F6 G5 G100005 n) n (h13_b F0 F1 F2 F3 F4 F5 F6 G5 G100005) := by intro _ _; kernel_rfl
theorem h13_good {α : Type} : ∀ n, GoodFn (α := α) Try.prog 13 (byShape S37.sh (callS S37 impl_polygon_normal n)) := good_of Try.func13 (by kernel_rfl) (by kernel_rfl) (by kernel_rfl) eqs_ok (fun n => h13_g slices_Concat_impl_polygon_impl_Point_0M2 impl_ledBy slices_CompareFunc_impl_Point_impl_Point_impl_Point_impl_Point_2F_impl_pointOrder slices_Clone_impl_polygon_impl_Point slices_Reverse_impl_polygon_impl_Point impl_points impl_points_0N impl_polygon_normal_l5 impl_polygon_normal_l100005 n) (by delta h13_b impl_polygon_normal; rfl) (allC h26_good (allC h25_good (allC h27_good (allC h29_good (allC h30_good (allC h31_good (allC h31a_good allN))))))) (allC (loop_fine (by kernel_rfl) (fun n => by delta h13_b5; funext _ _ _ _ _ _ _; exact (impl_polygon_normal_l5.eq_2 ..).symm) (fun n => h13_g5 slices_Concat_impl_polygon_impl_Point_0M2 impl_ledBy slices_CompareFunc_impl_Point_impl_Point_impl_Point_impl_Point_2F_impl_pointOrder slices_Clone_impl_polygon_impl_Point slices_Reverse_impl_polygon_impl_Point impl_points impl_points_0N impl_polygon_normal_l5 impl_polygon_normal_l100005 n)) (allC (loop_fine (by kernel_rfl) (fun n => by delta h13_b100005; funext _ _ _ _ _ _ _; exact (impl_polygon_normal_l100005.eq_2 ..).symm) (fun n => h13_g100005 slices_Concat_impl_polygon_impl_Point_0M2 impl_ledBy slices_CompareFunc_impl_Point_impl_Point_impl_Point_impl_Point_2F_impl_pointOrder slices_Clone_impl_polygon_impl_Point slices_Reverse_impl_polygon_impl_Point impl_points impl_points_0N impl_polygon_normal_l5 impl_polygon_normal_l100005 n)) allN))

/-! slices.Equal[[]loop.example/g01297/impl.Point,loop.example/g01297/impl.Point] -/
abbrev h14_x {α : Type}  : Nat → Ctx α := ctxS M eqs jt0 [] []
def h14_b {α : Type}  (_ : Nat) (r0 : Bool → Option α) : Option α :=
  r0 true
theorem h14_g {α : Type}  (n : Nat) : GenF (α := α) Try.prog Try.f14 S38 (h14_x n) n (h14_b) := by intro _; kernel_rfl
theorem h14_good {α : Type} : ∀ n, GoodFn (α := α) Try.prog 14 (byShape S38.sh (callS S38 slices_Equal_impl_Point_impl_Point_0N_1N n)) := good_of Try.func14 (by kernel_rfl) (by kernel_rfl) (by kernel_rfl) eqs_ok (fun n => h14_g n) (by delta h14_b slices_Equal_impl_Point_impl_Point_0N_1N; rfl) allN allN

/-! slices.Equal[[]loop.example/g01297/impl.Point,loop.example/g01297/impl.Point] -/
abbrev h14a_x {α : Type}  : Nat → Ctx α := ctxS M eqs jt0 [] []
def h14a_b {α : Type}  (_ : Nat) (s2 : List (Int × Int)) (r0 : Bool → Option α) : Option α :=
  bif (!decide (0 = (((List.length s2) : Nat) : Int))) then
    r0 false
  else
    r0 true
theorem h14a_g {α : Type}  (n : Nat) : GenF (α := α) Try.prog Try.f14 S39 (h14a_x n) n (h14a_b) := by intro _ _; kernel_rfl
theorem h14a_good {α : Type} : ∀ n, GoodFn (α := α) Try.prog 14 (byShape S39.sh (callS S39 slices_Equal_impl_Point_impl_Point_0N n)) := good_of Try.func14 (by kernel_rfl) (by kernel_rfl) (by kernel_rfl) eqs_ok (fun n => h14a_g n) (by delta h14a_b slices_Equal_impl_Point_impl_Point_0N; rfl) allN allN

/-! slices.Equal[[]loop.example/g01297/impl.Point,loop.example/g01297/impl.Point] -/
def h14b_t4 : Tpl := ⟨(.sl 0 :: (.nilsl :: (anyN 10 (.int .i64 :: (.int .i64 :: (anyN 12 [])))))), [(0, .rows 0 34 .pt)], [], false⟩
def h14b_p4 : PcS := loopS [.int, .int, .rows .pt] [0]
abbrev h14b_x {α : Type} (G4 : T32 α) : Nat → Ctx α := ctxS M eqs jt0 [] [lpT 4 h14b_t4 h14b_p4 R3 G4]
def h14b_b4 {α : Type}  (_ : Nat) (x : Int) (x1 : Int) (s11 : List (Int × Int)) (b0 : Int → Int → (List (Int × Int)) → Option α) (_ : Bool → Option α) : Option α :=
  bif decide (x1 < x) then
    bif (decide (0 ≤ x1) && decide (x1 < (((List.length s11) : Nat) : Int))) then
      (s11[x1.toNat]?).bind fun _ =>
      none
    else
      none
  else
    b0 x x1 s11
theorem h14b_g4 {α : Type} (G4 : T32 α) (n : Nat) : GenL (α := α) Try.prog Try.f14 S40 (h14b_x G4 n) 4 h14b_t4 h14b_p4 n G4 (h14b_b4) := by intro _ _ _ _ _; kernel_rfl
def h14b_b {α : Type} (G4 : T32 α) (k : Nat) (s1 : List (Int × Int)) (r0 : Bool → Option α) : Option α :=
  bif (!decide ((((List.length s1) : Nat) : Int) = 0)) then
    r0 false
  else
    G4 k (((List.length s1) : Nat) : Int) 0 s1
      (fun _ _ _ =>
        r0 true)
      r0
theorem h14b_g {α : Type} (G4 : T32 α) (n : Nat) : GenF (α := α) Try.prog Try.f14 S40 (h14b_x G4 n) n (h14b_b G4) := by intro _ _; kernel_rfl
theorem h14b_good {α : Type} : ∀ n, GoodFn (α := α) Try.prog 14 (byShape S40.sh (callS S40 slices_Equal_impl_Point_impl_Point_1N n)) := good_of Try.func14 (by kernel_rfl) (by kernel_rfl) (by kernel_rfl) eqs_ok (fun n => h14b_g slices_Equal_impl_Point_impl_Point_1N_l4 n) (by delta h14b_b slices_Equal_impl_Point_impl_Point_1N; rfl) allN (allC (loop_fine (by kernel_rfl) (fun n => by delta h14b_b4; funext _ _ _ _ _; exact (slices_Equal_impl_Point_impl_Point_1N_l4.eq_2 ..).symm) (fun n => h14b_g4 slices_Equal_impl_Point_impl_Point_1N_l4 n)) allN)

/-! slices.Equal[[]loop.example/g01297/impl.Point,loop.example/g01297/impl.Point] -/
def h14c_t4 : Tpl := ⟨(.sl 0 :: (.sl 64 :: (anyN 10 (.int .i64 :: (.int .i64 :: (anyN 12 [])))))), [(0, .rows 0 34 .pt), (64, .rows 0 34 .pt)], [], false⟩
def h14c_p4 : PcS := loopS [.int, .int, .rows .pt, .rows .pt] [0]
abbrev h14c_x {α : Type} (G4 : T46 α) : Nat → Ctx α := ctxS M eqs jt0 [] [lpT 4 h14c_t4 h14c_p4 R3 G4]
def h14c_b4 {α : Type} (G4 : T46 α) (k : Nat) (x : Int) (x1 : Int) (s11 : List (Int × Int)) (s21 : List (Int × Int)) (b0 : Int → Int → (List (Int × Int)) → (List (Int × Int)) → Option α) (r0 : Bool → Option α) : Option α :=
  bif decide (x1 < x) then
    bif (decide (0 ≤ x1) && decide (x1 < (((List.length s11) : Nat) : Int))) then
      (s11[x1.toNat]?).bind fun e_ =>
      bif (decide (0 ≤ x1) && decide (x1 < (((List.length s21) : Nat) : Int))) then
        (s21[x1.toNat]?).bind fun e_1 =>
        bif (!(decide (e_.1 = e_1.1) && decide (e_.2 = e_1.2))) then
          r0 false
        else
          G4 k x (w64 (x1 + 1)) s11 s21 b0 r0
      else
        none
    else
      none
  else
    b0 x x1 s11 s21
theorem h14c_g4 {α : Type} (G4 : T46 α) (n : Nat) : GenL (α := α) Try.prog Try.f14 S17 (h14c_x G4 n) 4 h14c_t4 h14c_p4 n G4 (h14c_b4 G4) := by intro _ _ _ _ _ _; kernel_rfl
def h14c_b {α : Type} (G4 : T46 α) (k : Nat) (s1 : List (Int × Int)) (s2 : List (Int × Int)) (r0 : Bool → Option α) : Option α :=
  bif (!decide ((((List.length s1) : Nat) : Int) = (((List.length s2) : Nat) : Int))) then
    r0 false
  else
    G4 k (((List.length s1) : Nat) : Int) 0 s1 s2
      (fun _ _ _ _ =>
        r0 true)
      r0
theorem h14c_g {α : Type} (G4 : T46 α) (n : Nat) : GenF (α := α) Try.prog Try.f14 S17 (h14c_x G4 n) n (h14c_b G4) := by intro _ _ _; kernel_rfl
theorem h14c_good {α : Type} : ∀ n, GoodFn (α := α) Try.prog 14 (byShape S17.sh (callS S17 slices_Equal_impl_Point_impl_Point n)) := good_of Try.func14 (by kernel_rfl) (by kernel_rfl) (by kernel_rfl) eqs_ok (fun n => h14c_g slices_Equal_impl_Point_impl_Point_l4 n) (by delta h14c_b slices_Equal_impl_Point_impl_Point; rfl) allN (allC (loop_fine (by kernel_rfl) (fun n => by delta h14c_b4; funext _ _ _ _ _ _; exact (slices_Equal_impl_Point_impl_Point_l4.eq_2 ..).symm) (fun n => h14c_g4 slices_Equal_impl_Point_impl_Point_l4 n)) allN)

/-! loop.example/g01297/impl.AreLikePolygons -/
abbrev h7_x {α : Type} (F0 : T10 α) (F1 : T47 α) (F2 : T43 α) (F3 : T10 α) (F4 : T10 α) (F5 : T20 α) : Nat → Ctx α := ctxS M eqs jt0 [⟨12, S10, F0⟩, ⟨13, S37, F1⟩, ⟨14, S38, F2⟩, ⟨14, S39, F3⟩, ⟨14, S40, F4⟩, ⟨14, S17, F5⟩] []
def h7_b {α : Type} (F0 : T10 α) (F1 : T47 α) (F2 : T43 α) (F3 : T10 α) (F4 : T10 α) (F5 : T20 α) (k : Nat) (a : List (Int × Int)) (b_ : List (Int × Int)) (r0 : Bool → Int → Option α) : Option α :=
  F0 k a fun v =>
  bif (!v) then
    r0 false 1
  else
    F0 k b_ fun v1 =>
    bif (!v1) then
      r0 false 1
    else
      F1 k a
        (fun v2 =>
          F1 k b_
            (fun v3 =>
              bif (!decide (v2 = 0)) then
                r0 false 3
              else
              bif (!decide (v3 = 0)) then
                r0 false 3
              else
                F2 k fun v4 =>
                r0 v4 0)
            (fun v5 v6 =>
              bif (!decide (v2 = 0)) then
                r0 false 3
              else
              bif (!decide (v6 = 0)) then
                r0 false 3
              else
                F3 k v5 fun v7 =>
                r0 v7 0))
        (fun v8 v9 =>
          F1 k b_
            (fun v10 =>
              bif (!decide (v9 = 0)) then
                r0 false 3
              else
              bif (!decide (v10 = 0)) then
                r0 false 3
              else
                F4 k v8 fun v11 =>
                r0 v11 0)
            (fun v12 v13 =>
              bif (!decide (v9 = 0)) then
                r0 false 3
              else
              bif (!decide (v13 = 0)) then
                r0 false 3
              else
                F5 k v8 v12 fun v14 =>
                r0 v14 0))
theorem h7_g {α : Type} (F0 : T10 α) (F1 : T47 α) (F2 : T43 α) (F3 : T10 α) (F4 : T10 α) (F5 : T20 α) (n : Nat) : GenF (α := α) Try.prog Try.f7 S20 (h7_x F0 F1 F2 F3 F4 F5 n) n (h7_b F0 F1 F2 F3 F4 F5) := by intro _ _ _; kernel_rfl
theorem h7_good {α : Type} : ∀ n, GoodFn (α := α) Try.prog 7 (byShape S20.sh (callS S20 impl_AreLikePolygons n)) := good_of Try.func7 (by kernel_rfl) (by kernel_rfl) (by kernel_rfl) eqs_ok (fun n => h7_g impl_IsPolygon impl_polygon_normal slices_Equal_impl_Point_impl_Point_0N_1N slices_Equal_impl_Point_impl_Point_0N slices_Equal_impl_Point_impl_Point_1N slices_Equal_impl_Point_impl_Point n) (by delta h7_b impl_AreLikePolygons; rfl) (allC h12_good (allC h13_good (allC h14_good (allC h14a_good (allC h14b_good (allC h14c_good allN)))))) allN

/-! loop.example/g01297/laws.eqPoint -/
abbrev h15_x {α : Type}  : Nat → Ctx α := ctxS M eqs jt0 [] []
def h15_b {α : Type}  (_ : Nat) (a : Int) (a1 : Int) (b_ : Int) (b_1 : Int) (r0 : Bool → Option α) : Option α :=
  bif (!decide (a = b_)) then
    r0 false
  else
  bif (!decide (a1 = b_1)) then
    r0 false
  else
    r0 true
theorem h15_g {α : Type}  (n : Nat) : GenF (α := α) Try.prog Try.f15 S16 (h15_x n) n (h15_b) := by intro _ _ _ _ _; kernel_rfl
theorem h15_good {α : Type} : ∀ n, GoodFn (α := α) Try.prog 15 (byShape S16.sh (callS S16 laws_eqPoint n)) := good_of Try.func15 (by kernel_rfl) (by kernel_rfl) (by kernel_rfl) eqs_ok (fun n => h15_g n) (by delta h15_b laws_eqPoint; rfl) allN allN

/-! loop.example/g01297/laws.eqPointS -/
def h8_t4 : Tpl := ⟨(.sl 0 :: (.sl 64 :: (.any :: (.any :: (.any :: (.int .i64 :: (anyN 21 []))))))), [(0, .rows 0 34 .pt), (64, .rows 0 34 .pt)], [], false⟩
def h8_p4 : PcS := loopS [.int, .rows .pt, .rows .pt] [0]
abbrev h8_x {α : Type} (F0 : T16 α) (G4 : T17 α) : Nat → Ctx α := ctxS M eqs jt0 [⟨15, S16, F0⟩] [lpT 4 h8_t4 h8_p4 R3 G4]
def h8_b4 {α : Type} (F0 : T16 α) (G4 : T17 α) (k : Nat) (i : Int) (a1 : List (Int × Int)) (b_1 : List (Int × Int)) (b0 : Int → (List (Int × Int)) → (List (Int × Int)) → Option α) (r0 : Bool → Option α) : Option α :=
  bif decide (i < (((List.length a1) : Nat) : Int)) then
    bif (decide (0 ≤ i) && decide (i < (((List.length a1) : Nat) : Int))) then
      (a1[i.toNat]?).bind fun e_ =>
      bif (decide (0 ≤ i) && decide (i < (((List.length b_1) : Nat) : Int))) then
        (b_1[i.toNat]?).bind fun e_1 =>
        F0 k e_.1 e_.2 e_1.1 e_1.2 fun v =>
        bif (!v) then
          r0 false
        else
          G4 k (w64 (i + 1)) a1 b_1 b0 r0
      else
        none
    else
      none
  else
    b0 i a1 b_1
theorem h8_g4 {α : Type} (F0 : T16 α) (G4 : T17 α) (n : Nat) : GenL (α := α) Try.prog Try.f8 S17 (h8_x F0 G4 n) 4 h8_t4 h8_p4 n G4 (h8_b4 F0 G4) := by intro _ _ _ _ _; kernel_rfl
def h8_b {α : Type} (G4 : T17 α) (k : Nat) (a : List (Int × Int)) (b_ : List (Int × Int)) (r0 : Bool → Option α) : Option α :=
  bif (!decide ((((List.length a) : Nat) : Int) = (((List.length b_) : Nat) : Int))) then
    r0 false
  else
    G4 k 0 a b_
      (fun _ _ _ =>
        r0 true)
      r0
theorem h8_g {α : Type} (F0 : T16 α) (G4 : T17 α) (n : Nat) : GenF (α := α) Try.prog Try.f8 S17 (h8_x F0 G4 n) n (h8_b G4) := by intro _ _ _; kernel_rfl
theorem h8_good {α : Type} : ∀ n, GoodFn (α := α) Try.prog 8 (byShape S17.sh (callS S17 laws_eqPointS n)) := good_of Try.func8 (by kernel_rfl) (by kernel_rfl) (by kernel_rfl) eqs_ok (fun n => h8_g laws_eqPoint laws_eqPointS_l4 n) (by delta h8_b laws_eqPointS; rfl) (allC h15_good allN) (allC (loop_fine (by kernel_rfl) (fun n => by delta h8_b4; funext _ _ _ _ _; exact (laws_eqPointS_l4.eq_2 ..).symm) (fun n => h8_g4 laws_eqPoint laws_eqPointS_l4 n)) allN)

end Go.Proofs.Ytamgbocajdfbhaa
