/- The program's functions hold to their readings without memory: printed by a program of ours. -/
import Derived.Test.YtgfnlccaleialaaSeXMapPolygon
namespace Go.Proofs.Ytgfnlccaleialaa
open Go Go.Ev Go.Sh Go.Proofs

/-! loop.example/g01297/laws.szPointS -/
abbrev h4_x {α : Type}  : Nat → Ctx α := ctxS false M eqs jt0 [] []
def h4_b {α : Type}  (_ : Nat) (a : List (Int × Int)) (left : Int) (r0 : Int → Option α) : Option α :=
  bif decide ((w64 (left - (((List.length a) : Nat) : Int))) < 0) then
    r0 (-1)
  else
    r0 (w64 (left - (((List.length a) : Nat) : Int)))
theorem h4_g {α : Type}  (n : Nat) : GenF (α := α) Try.prog Try.f4 S0 (h4_x n) n (h4_b) := by intro _ _ _; kernel_rfl
theorem h4_good {α : Type} : ∀ n, GoodFn (α := α) Try.prog 4 (byShape S0.sh (callS S0 laws_szPointS n)) := good_of Try.func4 (by kernel_rfl) (by kernel_rfl) (by kernel_rfl) eqs_ok (fun n => h4_g n) (by delta h4_b laws_szPointS; rfl) allN allN

/-! loop.example/g01297/laws.toInt64A2 -/
abbrev h21_x {α : Type}  : Nat → Ctx α := ctxS false M eqs jt0 [] []
def h21_b {α : Type}  (_ : Nat) (a : Int) (a1 : Int) (r0 : Int → Int → Option α) : Option α :=
  r0 a a1
theorem h21_g {α : Type}  (n : Nat) : GenF (α := α) Try.prog Try.f21 S1 (h21_x n) n (h21_b) := by intro _ _ _; kernel_rfl
theorem h21_good {α : Type} : ∀ n, GoodFn (α := α) Try.prog 21 (byShape S1.sh (callS S1 laws_toInt64A2 n)) := good_of Try.func21 (by kernel_rfl) (by kernel_rfl) (by kernel_rfl) eqs_ok (fun n => h21_g n) (by delta h21_b laws_toInt64A2; rfl) allN allN

/-! loop.example/g01297/laws.toMatrix -/
abbrev h6_x {α : Type} (F0 : T0 α) : Nat → Ctx α := ctxS false M eqs jt0 [⟨21, S1, F0⟩] []
def h6_b {α : Type} (F0 : T0 α) (k : Nat) (a : Int) (a1 : Int) (a2 : Int) (a3 : Int) (r0 : Int → Int → Int → Int → Option α) : Option α :=
  F0 k a a1 fun v v1 =>
  F0 k a2 a3 fun v2 v3 =>
  r0 v v1 v2 v3
theorem h6_g {α : Type} (F0 : T0 α) (n : Nat) : GenF (α := α) Try.prog Try.f6 S2 (h6_x F0 n) n (h6_b F0) := by intro _ _ _ _ _; kernel_rfl
theorem h6_good {α : Type} : ∀ n, GoodFn (α := α) Try.prog 6 (byShape S2.sh (callS S2 laws_toMatrix n)) := good_of Try.func6 (by kernel_rfl) (by kernel_rfl) (by kernel_rfl) eqs_ok (fun n => h6_g laws_toInt64A2 n) (by delta h6_b laws_toMatrix; rfl) (allC h21_good allN) allN

/-! loop.example/g01297/laws.toPoint -/
abbrev h8_x {α : Type}  : Nat → Ctx α := ctxS false M eqs jt0 [] []
def h8_b {α : Type}  (_ : Nat) (a : Int) (a1 : Int) (r0 : Int → Int → Option α) : Option α :=
  r0 a a1
theorem h8_g {α : Type}  (n : Nat) : GenF (α := α) Try.prog Try.f8 S1 (h8_x n) n (h8_b) := by intro _ _ _; kernel_rfl
theorem h8_good {α : Type} : ∀ n, GoodFn (α := α) Try.prog 8 (byShape S1.sh (callS S1 laws_toPoint n)) := good_of Try.func8 (by kernel_rfl) (by kernel_rfl) (by kernel_rfl) eqs_ok (fun n => h8_g n) (by delta h8_b laws_toPoint; rfl) allN allN

/-! loop.example/g01297/laws.toPointS -/
def h7_t3 : Tpl := ⟨(.sl 0 :: (.any :: (.any :: (.sl 448 :: (.int .i64 :: (anyN 18 [])))))), [(0, .rows 0 22 .pt), (448, .rows 2 32 .pt)], [], false⟩
def h7_p3 : PcS := loopS [.int, .rows .pt, .rows .pt] [0]
abbrev h7_x {α : Type} (F0 : T0 α) (G3 : T1 α) : Nat → Ctx α := ctxS false M eqs jt0 [⟨8, S1, F0⟩] [lpT 3 h7_t3 h7_p3 R3 G3]
def h7_b3 {α : Type} (F0 : T0 α) (G3 : T1 α) (k : Nat) (i : Int) (a1 : List (Int × Int)) (out : List (Int × Int)) (b0 : Int → (List (Int × Int)) → (List (Int × Int)) → Option α) (r0 : (List (Int × Int)) → Option α) : Option α :=
  bif decide (i < (((List.length a1) : Nat) : Int)) then
    bif (decide (0 ≤ i) && decide (i < (((List.length a1) : Nat) : Int))) then
      (a1[i.toNat]?).bind fun e_ =>
      F0 k e_.1 e_.2 fun v v1 =>
      bif (decide (0 ≤ i) && decide (i < (((List.length out) : Nat) : Int))) then
        (out[i.toNat]?).bind fun _ =>
        G3 k (w64 (i + 1)) a1 (List.set out i.toNat (v, v1)) b0 r0
      else
        none
    else
      none
  else
    b0 i a1 out
theorem h7_g3 {α : Type} (F0 : T0 α) (G3 : T1 α) (n : Nat) : GenL (α := α) Try.prog Try.f7 S3 (h7_x F0 G3 n) 3 h7_t3 h7_p3 n G3 (h7_b3 F0 G3) := by intro _ _ _ _ _; kernel_rfl
def h7_b {α : Type} (G3 : T1 α) (k : Nat) (a : List (Int × Int)) (r0 : (List (Int × Int)) → Option α) : Option α :=
  bif (decide (0 ≤ (((List.length a) : Nat) : Int)) && decide ((((List.length a) : Nat) : Int) ≤ (big : Int))) then
    G3 k 0 a (List.replicate (((List.length a) : Nat) : Int).toNat (0, 0))
      (fun _ _ out1 =>
        r0 out1)
      r0
  else
    none
theorem h7_g {α : Type} (F0 : T0 α) (G3 : T1 α) (n : Nat) : GenF (α := α) Try.prog Try.f7 S3 (h7_x F0 G3 n) n (h7_b G3) := by intro _ _; kernel_rfl
theorem h7_good {α : Type} : ∀ n, GoodFn (α := α) Try.prog 7 (byShape S3.sh (callS S3 laws_toPointS n)) := good_of Try.func7 (by kernel_rfl) (by kernel_rfl) (by kernel_rfl) eqs_ok (fun n => h7_g laws_toPoint laws_toPointS_l3 n) (by delta h7_b laws_toPointS; rfl) (allC h8_good allN) (allC (loop_fine (by kernel_rfl) (fun n => by delta h7_b3; funext _ _ _ _ _; exact (laws_toPointS_l3.eq_2 ..).symm) (fun n => h7_g3 laws_toPoint laws_toPointS_l3 n)) allN)

/-! loop.example/g01297/spec.l01In -/
abbrev h19_x {α : Type}  : Nat → Ctx α := ctxS false M eqs jt0 [] []
def h19_b {α : Type}  (_ : Nat) (n_ : Int) (low : Int) (high : Int) (r0 : Bool → Option α) : Option α :=
  bif decide (low ≤ n_) then
    r0 (decide (n_ ≤ high))
  else
    r0 false
theorem h19_g {α : Type}  (n : Nat) : GenF (α := α) Try.prog Try.f19 S4 (h19_x n) n (h19_b) := by intro _ _ _ _; kernel_rfl
theorem h19_good {α : Type} : ∀ n, GoodFn (α := α) Try.prog 19 (byShape S4.sh (callS S4 spec_l01In n)) := good_of Try.func19 (by kernel_rfl) (by kernel_rfl) (by kernel_rfl) eqs_ok (fun n => h19_g n) (by delta h19_b spec_l01In; rfl) allN allN

/-! loop.example/g01297/spec.l01Fits -/
abbrev h33_x {α : Type} (F0 : T2 α) : Nat → Ctx α := ctxS false M eqs jt0 [⟨19, S4, F0⟩] []
def h33_b {α : Type} (F0 : T2 α) (k : Nat) (x : Int) (r0 : Bool → Option α) : Option α :=
  F0 k x (-1000000) 1000000 fun v =>
  r0 v
theorem h33_g {α : Type} (F0 : T2 α) (n : Nat) : GenF (α := α) Try.prog Try.f33 S5 (h33_x F0 n) n (h33_b F0) := by intro _ _; kernel_rfl
theorem h33_good {α : Type} : ∀ n, GoodFn (α := α) Try.prog 33 (byShape S5.sh (callS S5 spec_l01Fits n)) := good_of Try.func33 (by kernel_rfl) (by kernel_rfl) (by kernel_rfl) eqs_ok (fun n => h33_g spec_l01In n) (by delta h33_b spec_l01Fits; rfl) (allC h19_good allN) allN

/-! loop.example/g01297/spec.l01Matrix -/
abbrev h13_x {α : Type} (F0 : T3 α) : Nat → Ctx α := ctxS false M eqs jt0 [⟨33, S5, F0⟩] []
def h13_b {α : Type} (F0 : T3 α) (k : Nat) (m : Int) (m1 : Int) (m2 : Int) (m3 : Int) (r0 : Bool → Option α) : Option α :=
  F0 k m fun v =>
  bif v then
    F0 k m1 fun v1 =>
    bif v1 then
      F0 k m2 fun v2 =>
      bif v2 then
        F0 k m3 fun v3 =>
        r0 v3
      else
        r0 false
    else
      r0 false
  else
    r0 false
theorem h13_g {α : Type} (F0 : T3 α) (n : Nat) : GenF (α := α) Try.prog Try.f13 S6 (h13_x F0 n) n (h13_b F0) := by intro _ _ _ _ _; kernel_rfl
theorem h13_good {α : Type} : ∀ n, GoodFn (α := α) Try.prog 13 (byShape S6.sh (callS S6 spec_l01Matrix n)) := good_of Try.func13 (by kernel_rfl) (by kernel_rfl) (by kernel_rfl) eqs_ok (fun n => h13_g spec_l01Fits n) (by delta h13_b spec_l01Matrix; rfl) (allC h33_good allN) allN

/-! loop.example/g01297/spec.l01Is -/
abbrev h15_x {α : Type} (F0 : T3 α) : Nat → Ctx α := ctxS false M eqs jt0 [⟨33, S5, F0⟩] []
def h15_b {α : Type} (F0 : T3 α) (k : Nat) (a : Int) (a1 : Int) (r0 : Bool → Option α) : Option α :=
  F0 k a fun v =>
  bif v then
    F0 k a1 fun v1 =>
    r0 v1
  else
    r0 false
theorem h15_g {α : Type} (F0 : T3 α) (n : Nat) : GenF (α := α) Try.prog Try.f15 S7 (h15_x F0 n) n (h15_b F0) := by intro _ _ _; kernel_rfl
theorem h15_good {α : Type} : ∀ n, GoodFn (α := α) Try.prog 15 (byShape S7.sh (callS S7 spec_l01Is n)) := good_of Try.func15 (by kernel_rfl) (by kernel_rfl) (by kernel_rfl) eqs_ok (fun n => h15_g spec_l01Fits n) (by delta h15_b spec_l01Is; rfl) (allC h33_good allN) allN

/-! loop.example/g01297/spec.l01Plus -/
abbrev h17_x {α : Type}  : Nat → Ctx α := ctxS false M eqs jt0 [] []
def h17_b {α : Type}  (_ : Nat) (a : Int) (a1 : Int) (b_ : Int) (b_1 : Int) (k_ : Int) (r0 : Int → Int → Option α) : Option α :=
  r0 (w64 (a + (w64 (k_ * b_)))) (w64 (a1 + (w64 (k_ * b_1))))
theorem h17_g {α : Type}  (n : Nat) : GenF (α := α) Try.prog Try.f17 S8 (h17_x n) n (h17_b) := by intro _ _ _ _ _ _; kernel_rfl
theorem h17_good {α : Type} : ∀ n, GoodFn (α := α) Try.prog 17 (byShape S8.sh (callS S8 spec_l01Plus n)) := good_of Try.func17 (by kernel_rfl) (by kernel_rfl) (by kernel_rfl) eqs_ok (fun n => h17_g n) (by delta h17_b spec_l01Plus; rfl) allN allN

/-! loop.example/g01297/spec.l01Det -/
abbrev h38_x {α : Type}  : Nat → Ctx α := ctxS false M eqs jt0 [] []
def h38_b {α : Type}  (_ : Nat) (a : Int) (a1 : Int) (b_ : Int) (b_1 : Int) (r0 : Int → Option α) : Option α :=
  r0 (w64 ((w64 (a * b_1)) - (w64 (a1 * b_))))
theorem h38_g {α : Type}  (n : Nat) : GenF (α := α) Try.prog Try.f38 S9 (h38_x n) n (h38_b) := by intro _ _ _ _ _; kernel_rfl
theorem h38_good {α : Type} : ∀ n, GoodFn (α := α) Try.prog 38 (byShape S9.sh (callS S9 spec_l01Det n)) := good_of Try.func38 (by kernel_rfl) (by kernel_rfl) (by kernel_rfl) eqs_ok (fun n => h38_g n) (by delta h38_b spec_l01Det; rfl) allN allN

/-! loop.example/g01297/spec.l09Side -/
abbrev h34_x {α : Type} (F0 : T4 α) (F1 : T5 α) : Nat → Ctx α := ctxS false M eqs jt0 [⟨17, S8, F0⟩, ⟨38, S9, F1⟩] []
def h34_b {α : Type} (F0 : T4 α) (F1 : T5 α) (k : Nat) (a : Int) (a1 : Int) (b_ : Int) (b_1 : Int) (c : Int) (c1 : Int) (r0 : Int → Option α) : Option α :=
  F0 k b_ b_1 a a1 (-1) fun v v1 =>
  F0 k c c1 b_ b_1 (-1) fun v2 v3 =>
  F1 k v v1 v2 v3 fun v4 =>
  r0 v4
theorem h34_g {α : Type} (F0 : T4 α) (F1 : T5 α) (n : Nat) : GenF (α := α) Try.prog Try.f34 S10 (h34_x F0 F1 n) n (h34_b F0 F1) := by intro _ _ _ _ _ _ _; kernel_rfl
theorem h34_good {α : Type} : ∀ n, GoodFn (α := α) Try.prog 34 (byShape S10.sh (callS S10 spec_l09Side n)) := good_of Try.func34 (by kernel_rfl) (by kernel_rfl) (by kernel_rfl) eqs_ok (fun n => h34_g spec_l01Plus spec_l01Det n) (by delta h34_b spec_l09Side; rfl) (allC h17_good (allC h38_good allN)) allN

/-! loop.example/g01297/spec.l09Half -/
abbrev h35_x {α : Type}  : Nat → Ctx α := ctxS false M eqs jt0 [] []
def h35_b {α : Type}  (_ : Nat) (a : Int) (a1 : Int) (r0 : Int → Option α) : Option α :=
  bif decide (0 < a1) then
    r0 0
  else
  bif decide (a1 = 0) then
    bif decide (0 < a) then
      r0 0
    else
      r0 1
  else
    r0 1
theorem h35_g {α : Type}  (n : Nat) : GenF (α := α) Try.prog Try.f35 S11 (h35_x n) n (h35_b) := by intro _ _ _; kernel_rfl
theorem h35_good {α : Type} : ∀ n, GoodFn (α := α) Try.prog 35 (byShape S11.sh (callS S11 spec_l09Half n)) := good_of Try.func35 (by kernel_rfl) (by kernel_rfl) (by kernel_rfl) eqs_ok (fun n => h35_g n) (by delta h35_b spec_l09Half; rfl) allN allN

/-! loop.example/g01297/spec.l09Is -/
def h14_t6 : Tpl := ⟨(.sl 0 :: (.any :: (.any :: (.int .i64 :: (.int .i64 :: (.int .i64 :: (anyN 75 []))))))), [(0, .rows 0 32 .pt)], [], false⟩
def h14_p6 : PcS := loopS [.int, .int, .int, .rows .pt] [0]
abbrev h14_x {α : Type} (F0 : T2 α) (F1 : T6 α) (F2 : T7 α) (F3 : T4 α) (F4 : T8 α) (G6 : T9 α) : Nat → Ctx α := ctxS false M eqs jt0 [⟨19, S4, F0⟩, ⟨15, S7, F1⟩, ⟨34, S10, F2⟩, ⟨17, S8, F3⟩, ⟨35, S11, F4⟩] [lpT 6 h14_t6 h14_p6 R4 G6]
def h14_b6 {α : Type} (F0 : T2 α) (F1 : T6 α) (F2 : T7 α) (F3 : T4 α) (F4 : T8 α) (G6 : T9 α) (k : Nat) (n_ : Int) (turns : Int) (i : Int) (list1 : List (Int × Int)) (b0 : Int → Int → Int → (List (Int × Int)) → Option α) (r0 : Bool → Option α) : Option α :=
  bif decide (i < n_) then
    bif (decide (0 ≤ i) && decide (i < (((List.length list1) : Nat) : Int))) then
      (list1[i.toNat]?).bind fun e_ =>
      bif decide (n_ = 0) then
        none
      else
      bif (decide (0 ≤ (Int.tmod (w64 (i + 1)) n_)) && decide ((Int.tmod (w64 (i + 1)) n_) < (((List.length list1) : Nat) : Int))) then
        (list1[(Int.tmod (w64 (i + 1)) n_).toNat]?).bind fun e_1 =>
        bif decide (n_ = 0) then
          none
        else
        bif (decide (0 ≤ (Int.tmod (w64 (i + 2)) n_)) && decide ((Int.tmod (w64 (i + 2)) n_) < (((List.length list1) : Nat) : Int))) then
          (list1[(Int.tmod (w64 (i + 2)) n_).toNat]?).bind fun e_2 =>
          F0 k e_.1 (-1000) 1000 fun v =>
          bif (!v) then
            r0 false
          else
            F0 k e_.2 (-1000) 1000 fun v1 =>
            bif (!v1) then
              r0 false
            else
              F1 k e_1.1 e_1.2 fun v2 =>
              bif (!v2) then
                r0 false
              else
                F1 k e_2.1 e_2.2 fun v3 =>
                bif (!v3) then
                  r0 false
                else
                  F2 k e_.1 e_.2 e_1.1 e_1.2 e_2.1 e_2.2 fun v4 =>
                  bif decide (v4 ≤ 0) then
                    r0 false
                  else
                    F3 k e_1.1 e_1.2 e_.1 e_.2 (-1) fun v5 v6 =>
                    F4 k v5 v6 fun v7 =>
                    bif decide (v7 = 1) then
                      F3 k e_2.1 e_2.2 e_1.1 e_1.2 (-1) fun v8 v9 =>
                      F4 k v8 v9 fun v10 =>
                      bif decide (v10 = 0) then
                        G6 k n_ (w64 (turns + 1)) (w64 (i + 1)) list1 b0 r0
                      else
                        G6 k n_ turns (w64 (i + 1)) list1 b0 r0
                    else
                      G6 k n_ turns (w64 (i + 1)) list1 b0 r0
        else
          none
      else
        none
    else
      none
  else
    b0 n_ turns i list1
theorem h14_g6 {α : Type} (F0 : T2 α) (F1 : T6 α) (F2 : T7 α) (F3 : T4 α) (F4 : T8 α) (G6 : T9 α) (n : Nat) : GenL (α := α) Try.prog Try.f14 S12 (h14_x F0 F1 F2 F3 F4 G6 n) 6 h14_t6 h14_p6 n G6 (h14_b6 F0 F1 F2 F3 F4 G6) := by intro _ _ _ _ _ _; kernel_rfl
def h14_b {α : Type} (G6 : T9 α) (k : Nat) (list : List (Int × Int)) (r0 : Bool → Option α) : Option α :=
  bif decide ((((List.length list) : Nat) : Int) < 3) then
    r0 false
  else
  bif decide (12 < (((List.length list) : Nat) : Int)) then
    r0 false
  else
    G6 k (((List.length list) : Nat) : Int) 0 0 list
      (fun _ turns1 _ _ =>
        r0 (decide (turns1 = 1)))
      r0
theorem h14_g {α : Type} (F0 : T2 α) (F1 : T6 α) (F2 : T7 α) (F3 : T4 α) (F4 : T8 α) (G6 : T9 α) (n : Nat) : GenF (α := α) Try.prog Try.f14 S12 (h14_x F0 F1 F2 F3 F4 G6 n) n (h14_b G6) := by intro _ _; kernel_rfl
theorem h14_good {α : Type} : ∀ n, GoodFn (α := α) Try.prog 14 (byShape S12.sh (callS S12 spec_l09Is n)) := good_of Try.func14 (by kernel_rfl) (by kernel_rfl) (by kernel_rfl) eqs_ok (fun n => h14_g spec_l01In spec_l01Is spec_l09Side spec_l01Plus spec_l09Half spec_l09Is_l6 n) (by delta h14_b spec_l09Is; rfl) (allC h19_good (allC h15_good (allC h34_good (allC h17_good (allC h35_good allN))))) (allC (loop_fine (by kernel_rfl) (fun n => by delta h14_b6; funext _ _ _ _ _ _; exact (spec_l09Is_l6.eq_2 ..).symm) (fun n => h14_g6 spec_l01In spec_l01Is spec_l09Side spec_l01Plus spec_l09Half spec_l09Is_l6 n)) allN)

/-! loop.example/g01297/spec.l01DetOf -/
abbrev h36_x {α : Type}  : Nat → Ctx α := ctxS false M eqs jt0 [] []
def h36_b {α : Type}  (_ : Nat) (m : Int) (m1 : Int) (m2 : Int) (m3 : Int) (r0 : Int → Option α) : Option α :=
  r0 (w64 ((w64 (m * m3)) - (w64 (m1 * m2))))
theorem h36_g {α : Type}  (n : Nat) : GenF (α := α) Try.prog Try.f36 S13 (h36_x n) n (h36_b) := by intro _ _ _ _ _; kernel_rfl
theorem h36_good {α : Type} : ∀ n, GoodFn (α := α) Try.prog 36 (byShape S13.sh (callS S13 spec_l01DetOf n)) := good_of Try.func36 (by kernel_rfl) (by kernel_rfl) (by kernel_rfl) eqs_ok (fun n => h36_g n) (by delta h36_b spec_l01DetOf; rfl) allN allN

/-! loop.example/g01297/spec.l01Unit -/
abbrev h16_x {α : Type} (F0 : T5 α) : Nat → Ctx α := ctxS false M eqs jt0 [⟨36, S13, F0⟩] []
def h16_b {α : Type} (F0 : T5 α) (k : Nat) (m : Int) (m1 : Int) (m2 : Int) (m3 : Int) (r0 : Bool → Option α) : Option α :=
  F0 k m m1 m2 m3 fun v =>
  bif decide (v = 1) then
    r0 true
  else
    r0 (decide (v = (-1)))
theorem h16_g {α : Type} (F0 : T5 α) (n : Nat) : GenF (α := α) Try.prog Try.f16 S6 (h16_x F0 n) n (h16_b F0) := by intro _ _ _ _ _; kernel_rfl
theorem h16_good {α : Type} : ∀ n, GoodFn (α := α) Try.prog 16 (byShape S6.sh (callS S6 spec_l01Unit n)) := good_of Try.func16 (by kernel_rfl) (by kernel_rfl) (by kernel_rfl) eqs_ok (fun n => h16_g spec_l01DetOf n) (by delta h16_b spec_l01Unit; rfl) (allC h36_good allN) allN

/-! loop.example/g01297/spec.l01Apply -/
abbrev h18_x {α : Type}  : Nat → Ctx α := ctxS false M eqs jt0 [] []
def h18_b {α : Type}  (_ : Nat) (m : Int) (m1 : Int) (m2 : Int) (m3 : Int) (a : Int) (a1 : Int) (r0 : Int → Int → Option α) : Option α :=
  r0 (w64 ((w64 (m * a)) + (w64 (m1 * a1)))) (w64 ((w64 (m2 * a)) + (w64 (m3 * a1))))
theorem h18_g {α : Type}  (n : Nat) : GenF (α := α) Try.prog Try.f18 S14 (h18_x n) n (h18_b) := by intro _ _ _ _ _ _ _; kernel_rfl
theorem h18_good {α : Type} : ∀ n, GoodFn (α := α) Try.prog 18 (byShape S14.sh (callS S14 spec_l01Apply n)) := good_of Try.func18 (by kernel_rfl) (by kernel_rfl) (by kernel_rfl) eqs_ok (fun n => h18_g n) (by delta h18_b spec_l01Apply; rfl) allN allN

/-! loop.example/g01297/spec.l09Before -/
abbrev h37_x {α : Type}  : Nat → Ctx α := ctxS false M eqs jt0 [] []
def h37_b {α : Type}  (_ : Nat) (a : Int) (a1 : Int) (b_ : Int) (b_1 : Int) (r0 : Bool → Option α) : Option α :=
  bif decide (a < b_) then
    r0 true
  else
  bif decide (a = b_) then
    r0 (decide (a1 < b_1))
  else
    r0 false
theorem h37_g {α : Type}  (n : Nat) : GenF (α := α) Try.prog Try.f37 S15 (h37_x n) n (h37_b) := by intro _ _ _ _ _; kernel_rfl
theorem h37_good {α : Type} : ∀ n, GoodFn (α := α) Try.prog 37 (byShape S15.sh (callS S15 spec_l09Before n)) := good_of Try.func37 (by kernel_rfl) (by kernel_rfl) (by kernel_rfl) eqs_ok (fun n => h37_g n) (by delta h37_b spec_l09Before; rfl) allN allN

/-! loop.example/g01297/spec.l09Far -/
abbrev h39_x {α : Type}  : Nat → Ctx α := ctxS false M eqs jt0 [] []
def h39_b {α : Type}  (_ : Nat) (a : Int) (a1 : Int) (b_ : Int) (b_1 : Int) (r0 : Int → Option α) : Option α :=
  r0 (w64 ((max (w64 (b_ - a)) (w64 (0 - (w64 (b_ - a))))) + (max (w64 (b_1 - a1)) (w64 (0 - (w64 (b_1 - a1)))))))
theorem h39_g {α : Type}  (n : Nat) : GenF (α := α) Try.prog Try.f39 S9 (h39_x n) n (h39_b) := by intro _ _ _ _ _; kernel_rfl
theorem h39_good {α : Type} : ∀ n, GoodFn (α := α) Try.prog 39 (byShape S9.sh (callS S9 spec_l09Far n)) := good_of Try.func39 (by kernel_rfl) (by kernel_rfl) (by kernel_rfl) eqs_ok (fun n => h39_g n) (by delta h39_b spec_l09Far; rfl) allN allN

/-! loop.example/g01297/spec.l09Hull -/
def h20_t5 : Tpl := ⟨(.sl 0 :: (.any :: (.any :: (.ptr 192 0 0 :: (.int .i64 :: (anyN 106 [])))))), [(0, .rows 0 32 .pt), (192, .ints 2 32 .i64 2)], [], false⟩
def h20_p5 : PcS := loopS [.int, .rows .pt, .int, .int] [0]
def h20_t13 : Tpl := ⟨(.sl 0 :: (.any :: (.any :: (.ptr 192 0 0 :: (.any :: (.sl 2240 :: (.ptr 384 0 0 :: (.ptr 448 0 0 :: (.bool :: (.int .i64 :: (anyN 101 []))))))))))), [(0, .rows 0 32 .pt), (192, .ints 2 32 .i64 2), (2240, .rows 2 32 .pt), (384, .ints 2 32 .i64 2), (448, .ints 2 32 .i64 2)], [], false⟩
def h20_p13 : PcS := loopS [.bool, .int, .rows .pt, .int, .int, .rows .pt, .int, .int, .int, .int] [4]
def h20_t10 : Tpl := ⟨(.sl 0 :: (.any :: (.any :: (.ptr 192 0 0 :: (.any :: (.sl 2240 :: (anyN 105 []))))))), [(0, .rows 0 32 .pt), (192, .ints 2 32 .i64 2), (2240, .rows 2 32 .pt)], [], false⟩
def h20_p10 : PcS := loopS [.rows .pt, .int, .int, .rows .pt] []
abbrev h20_x {α : Type} (F0 : T10 α) (F1 : T4 α) (F2 : T5 α) (F3 : T5 α) (G5 : T11 α) (G13 : T12 α) (G10 : T13 α) : Nat → Ctx α := ctxS false M eqs jt0 [⟨37, S15, F0⟩, ⟨17, S8, F1⟩, ⟨38, S9, F2⟩, ⟨39, S9, F3⟩] [lpT 5 h20_t5 h20_p5 R3 G5, lpT 13 h20_t13 h20_p13 R3 G13, lpT 10 h20_t10 h20_p10 R3 G10]
def h20_b5 {α : Type} (F0 : T10 α) (G5 : T11 α) (k : Nat) (i : Int) (list1 : List (Int × Int)) (first : Int) (first1 : Int) (b0 : Int → (List (Int × Int)) → Int → Int → Option α) (r0 : (List (Int × Int)) → Option α) : Option α :=
  bif decide (i < (((List.length list1) : Nat) : Int)) then
    bif (decide (0 ≤ i) && decide (i < (((List.length list1) : Nat) : Int))) then
      (list1[i.toNat]?).bind fun e_1 =>
      F0 k e_1.1 e_1.2 first first1 fun v =>
      bif v then
        bif (decide (0 ≤ i) && decide (i < (((List.length list1) : Nat) : Int))) then
          (list1[i.toNat]?).bind fun e_2 =>
          G5 k (w64 (i + 1)) list1 e_2.1 e_2.2 b0 r0
        else
          none
      else
        G5 k (w64 (i + 1)) list1 first first1 b0 r0
    else
      none
  else
    b0 i list1 first first1
theorem h20_g5 {α : Type} (F0 : T10 α) (F1 : T4 α) (F2 : T5 α) (F3 : T5 α) (G5 : T11 α) (G13 : T12 α) (G10 : T13 α) (n : Nat) : GenL (α := α) Try.prog Try.f20 S16 (h20_x F0 F1 F2 F3 G5 G13 G10 n) 5 h20_t5 h20_p5 n G5 (h20_b5 F0 G5) := by intro _ _ _ _ _ _; kernel_rfl
def h20_b13 {α : Type} (F1 : T4 α) (F2 : T5 α) (F3 : T5 α) (G13 : T12 α) (k : Nat) (found : Bool) (i2 : Int) (list4 : List (Int × Int)) (first6 : Int) (first7 : Int) (out1 : List (Int × Int)) (now : Int) (now1 : Int) (next : Int) (next1 : Int) (b4 : Bool → Int → (List (Int × Int)) → Int → Int → (List (Int × Int)) → Int → Int → Int → Int → Option α) (r0 : (List (Int × Int)) → Option α) : Option α :=
  bif decide (i2 < (((List.length list4) : Nat) : Int)) then
    bif (decide (0 ≤ i2) && decide (i2 < (((List.length list4) : Nat) : Int))) then
      (list4[i2.toNat]?).bind fun e_4 =>
      bif (decide (e_4.1 = now) && decide (e_4.2 = now1)) then
        G13 k found (w64 (i2 + 1)) list4 first6 first7 out1 now now1 next next1 b4 r0
      else
      bif (!found) then
        bif (decide (0 ≤ i2) && decide (i2 < (((List.length list4) : Nat) : Int))) then
          (list4[i2.toNat]?).bind fun e_5 =>
          G13 k true (w64 (i2 + 1)) list4 first6 first7 out1 now now1 e_5.1 e_5.2 b4 r0
        else
          none
      else
      bif (decide (0 ≤ i2) && decide (i2 < (((List.length list4) : Nat) : Int))) then
        (list4[i2.toNat]?).bind fun e_6 =>
        F1 k next next1 now now1 (-1) fun v1 v2 =>
        F1 k e_6.1 e_6.2 now now1 (-1) fun v3 v4 =>
        F2 k v1 v2 v3 v4 fun v5 =>
        bif decide (v5 < 0) then
          bif (decide (0 ≤ i2) && decide (i2 < (((List.length list4) : Nat) : Int))) then
            (list4[i2.toNat]?).bind fun e_7 =>
            G13 k found (w64 (i2 + 1)) list4 first6 first7 out1 now now1 e_7.1 e_7.2 b4 r0
          else
            none
        else
        bif decide (v5 = 0) then
          bif (decide (0 ≤ i2) && decide (i2 < (((List.length list4) : Nat) : Int))) then
            (list4[i2.toNat]?).bind fun e_8 =>
            F3 k now now1 e_8.1 e_8.2 fun v6 =>
            F3 k now now1 next next1 fun v7 =>
            bif decide (v7 < v6) then
              bif (decide (0 ≤ i2) && decide (i2 < (((List.length list4) : Nat) : Int))) then
                (list4[i2.toNat]?).bind fun e_9 =>
                G13 k found (w64 (i2 + 1)) list4 first6 first7 out1 now now1 e_9.1 e_9.2 b4 r0
              else
                none
            else
              G13 k found (w64 (i2 + 1)) list4 first6 first7 out1 now now1 next next1 b4 r0
          else
            none
        else
          G13 k found (w64 (i2 + 1)) list4 first6 first7 out1 now now1 next next1 b4 r0
      else
        none
    else
      none
  else
    b4 found i2 list4 first6 first7 out1 now now1 next next1
theorem h20_g13 {α : Type} (F0 : T10 α) (F1 : T4 α) (F2 : T5 α) (F3 : T5 α) (G5 : T11 α) (G13 : T12 α) (G10 : T13 α) (n : Nat) : GenL (α := α) Try.prog Try.f20 S16 (h20_x F0 F1 F2 F3 G5 G13 G10 n) 13 h20_t13 h20_p13 n G13 (h20_b13 F1 F2 F3 G13) := by intro _ _ _ _ _ _ _ _ _ _ _ _; kernel_rfl
def h20_b10 {α : Type} (G13 : T12 α) (G10 : T13 α) (k : Nat) (list3 : List (Int × Int)) (first4 : Int) (first5 : Int) (out : List (Int × Int)) (r0 : (List (Int × Int)) → Option α) : Option α :=
  bif (decide (0 ≤ (w64 ((((List.length out) : Nat) : Int) - 1))) && decide ((w64 ((((List.length out) : Nat) : Int) - 1)) < (((List.length out) : Nat) : Int))) then
    (out[(w64 ((((List.length out) : Nat) : Int) - 1)).toNat]?).bind fun e_3 =>
    G13 k false 0 list3 first4 first5 out e_3.1 e_3.2 0 0
      (fun found1 _ list5 first8 first9 out2 _ _ next2 next3 =>
        bif (!found1) then
          r0 out2
        else
        bif (decide (next2 = first8) && decide (next3 = first9)) then
          r0 out2
        else
        bif decide (((List.length out2) + 1) ≤ big) then
          bif decide ((((List.length list5) : Nat) : Int) < (((List.length (out2 ++ [(next2, next3)])) : Nat) : Int)) then
            r0 (out2 ++ [(next2, next3)])
          else
            G10 k list5 first8 first9 (out2 ++ [(next2, next3)]) r0
        else
          none)
      r0
  else
    none
theorem h20_g10 {α : Type} (F0 : T10 α) (F1 : T4 α) (F2 : T5 α) (F3 : T5 α) (G5 : T11 α) (G13 : T12 α) (G10 : T13 α) (n : Nat) : GenL (α := α) Try.prog Try.f20 S16 (h20_x F0 F1 F2 F3 G5 G13 G10 n) 10 h20_t10 h20_p10 n G10 (h20_b10 G13 G10) := by intro _ _ _ _ _ _; kernel_rfl
def h20_b {α : Type} (G5 : T11 α) (G10 : T13 α) (k : Nat) (list : List (Int × Int)) (r0 : (List (Int × Int)) → Option α) : Option α :=
  bif decide ((((List.length list) : Nat) : Int) = 0) then
    r0 []
  else
  bif (true && decide (0 < (((List.length list) : Nat) : Int))) then
    (list[0]?).bind fun e_ =>
    G5 k 0 list e_.1 e_.2
      (fun _ list2 first2 first3 =>
        G10 k list2 first2 first3 [(first2, first3)]
          r0)
      r0
  else
    none
theorem h20_g {α : Type} (F0 : T10 α) (F1 : T4 α) (F2 : T5 α) (F3 : T5 α) (G5 : T11 α) (G13 : T12 α) (G10 : T13 α) (n : Nat) : GenF (α := α) Try.prog Try.f20 S16 (h20_x F0 F1 F2 F3 G5 G13 G10 n) n (h20_b G5 G10) := by intro _ _; kernel_rfl
theorem h20_good {α : Type} : ∀ n, GoodFn (α := α) Try.prog 20 (byShape S16.sh (callS S16 spec_l09Hull n)) := good_of Try.func20 (by kernel_rfl) (by kernel_rfl) (by kernel_rfl) eqs_ok (fun n => h20_g spec_l09Before spec_l01Plus spec_l01Det spec_l09Far spec_l09Hull_l5 spec_l09Hull_l13 spec_l09Hull_l10 n) (by delta h20_b spec_l09Hull; rfl) (allC h37_good (allC h17_good (allC h38_good (allC h39_good allN)))) (allC (loop_fine (by kernel_rfl) (fun n => by delta h20_b5; funext _ _ _ _ _ _; exact (spec_l09Hull_l5.eq_2 ..).symm) (fun n => h20_g5 spec_l09Before spec_l01Plus spec_l01Det spec_l09Far spec_l09Hull_l5 spec_l09Hull_l13 spec_l09Hull_l10 n)) (allC (loop_fine (by kernel_rfl) (fun n => by delta h20_b13; funext _ _ _ _ _ _ _ _ _ _ _ _; exact (spec_l09Hull_l13.eq_2 ..).symm) (fun n => h20_g13 spec_l09Before spec_l01Plus spec_l01Det spec_l09Far spec_l09Hull_l5 spec_l09Hull_l13 spec_l09Hull_l10 n)) (allC (loop_fine (by kernel_rfl) (fun n => by delta h20_b10; funext _ _ _ _ _; exact (spec_l09Hull_l10.eq_2 ..).symm) (fun n => h20_g10 spec_l09Before spec_l01Plus spec_l01Det spec_l09Far spec_l09Hull_l5 spec_l09Hull_l13 spec_l09Hull_l10 n)) allN)))

/-! loop.example/g01297/spec.MapPolygon -/
def h5_t7 : Tpl := ⟨(.any :: (.sl 64 :: (.any :: (.ptr 192 0 0 :: (.any :: (.ptr 320 0 0 :: (.any :: (.any :: (.sl 1856 :: (.int .i64 :: (anyN 50 []))))))))))), [(64, .rows 0 32 .pt), (192, .ints 2 29 .i64 4), (320, .ints 2 32 .i64 2), (1856, .rows 2 32 .pt)], [], false⟩
def h5_p7 : PcS := loopS [.int, .rows .pt, .int, .int, .int, .int, .int, .int, .rows .pt] [1]
abbrev h5_x {α : Type} (F0 : T10 α) (F1 : T14 α) (F2 : T6 α) (F3 : T10 α) (F4 : T15 α) (F5 : T4 α) (F6 : T2 α) (F7 : T16 α) (G7 : T17 α) : Nat → Ctx α := ctxS false M eqs jt0 [⟨13, S6, F0⟩, ⟨14, S12, F1⟩, ⟨15, S7, F2⟩, ⟨16, S6, F3⟩, ⟨18, S14, F4⟩, ⟨17, S8, F5⟩, ⟨19, S4, F6⟩, ⟨20, S16, F7⟩] [lpT 7 h5_t7 h5_p7 R5 G7]
def h5_b7 {α : Type} (F4 : T15 α) (F5 : T4 α) (F6 : T2 α) (G7 : T17 α) (k : Nat) (i : Int) (list1 : List (Int × Int)) (m4 : Int) (m5 : Int) (m6 : Int) (m7 : Int) (b_2 : Int) (b_3 : Int) (all : List (Int × Int)) (b1 : Int → (List (Int × Int)) → Int → Int → Int → Int → Int → Int → (List (Int × Int)) → Option α) (r0 : Int → Option α) (r1 : (List (Int × Int)) → Int → Option α) : Option α :=
  bif decide (i < (((List.length list1) : Nat) : Int)) then
    bif (decide (0 ≤ i) && decide (i < (((List.length list1) : Nat) : Int))) then
      (list1[i.toNat]?).bind fun e_ =>
      F4 k m4 m5 m6 m7 e_.1 e_.2 fun v4 v5 =>
      F5 k v4 v5 b_2 b_3 1 fun v6 v7 =>
      F6 k v6 (-1000) 1000 fun v8 =>
      bif (!v8) then
        r0 3
      else
        F6 k v7 (-1000) 1000 fun v9 =>
        bif (!v9) then
          r0 3
        else
        bif decide (((List.length all) + 1) ≤ big) then
          G7 k (w64 (i + 1)) list1 m4 m5 m6 m7 b_2 b_3 (all ++ [(v6, v7)]) b1 r0 r1
        else
          none
    else
      none
  else
    b1 i list1 m4 m5 m6 m7 b_2 b_3 all
theorem h5_g7 {α : Type} (F0 : T10 α) (F1 : T14 α) (F2 : T6 α) (F3 : T10 α) (F4 : T15 α) (F5 : T4 α) (F6 : T2 α) (F7 : T16 α) (G7 : T17 α) (n : Nat) : GenL (α := α) Try.prog Try.f5 S17 (h5_x F0 F1 F2 F3 F4 F5 F6 F7 G7 n) 7 h5_t7 h5_p7 n G7 (h5_b7 F4 F5 F6 G7) := by intro _ _ _ _ _ _ _ _ _ _ _; kernel_rfl
def h5_b {α : Type} (F0 : T10 α) (F1 : T14 α) (F2 : T6 α) (F3 : T10 α) (F7 : T16 α) (G7 : T17 α) (k : Nat) (m : Int) (m1 : Int) (m2 : Int) (m3 : Int) (list : List (Int × Int)) (b_ : Int) (b_1 : Int) (r0 : Int → Option α) (r1 : (List (Int × Int)) → Int → Option α) : Option α :=
  F0 k m m1 m2 m3 fun v =>
  bif (!v) then
    r0 1
  else
    F1 k list fun v1 =>
    bif (!v1) then
      r0 1
    else
      F2 k b_ b_1 fun v2 =>
      bif (!v2) then
        r0 1
      else
        F3 k m m1 m2 m3 fun v3 =>
        bif (!v3) then
          r0 5
        else
          G7 k 0 list m m1 m2 m3 b_ b_1 []
            (fun _ _ _ _ _ _ _ _ all1 =>
              F7 k all1 fun v10 =>
              r1 v10 0)
            r0 r1
theorem h5_g {α : Type} (F0 : T10 α) (F1 : T14 α) (F2 : T6 α) (F3 : T10 α) (F4 : T15 α) (F5 : T4 α) (F6 : T2 α) (F7 : T16 α) (G7 : T17 α) (n : Nat) : GenF (α := α) Try.prog Try.f5 S17 (h5_x F0 F1 F2 F3 F4 F5 F6 F7 G7 n) n (h5_b F0 F1 F2 F3 F7 G7) := by intro _ _ _ _ _ _ _ _; kernel_rfl
theorem h5_good {α : Type} : ∀ n, GoodFn (α := α) Try.prog 5 (byShape S17.sh (callS S17 spec_MapPolygon n)) := good_of Try.func5 (by kernel_rfl) (by kernel_rfl) (by kernel_rfl) eqs_ok (fun n => h5_g spec_l01Matrix spec_l09Is spec_l01Is spec_l01Unit spec_l01Apply spec_l01Plus spec_l01In spec_l09Hull spec_MapPolygon_l7 n) (by delta h5_b spec_MapPolygon; rfl) (allC h13_good (allC h14_good (allC h15_good (allC h16_good (allC h18_good (allC h17_good (allC h19_good (allC h20_good allN)))))))) (allC (loop_fine (by kernel_rfl) (fun n => by delta h5_b7; funext _ _ _ _ _ _ _ _ _ _ _ _; exact (spec_MapPolygon_l7.eq_2 ..).symm) (fun n => h5_g7 spec_l01Matrix spec_l09Is spec_l01Is spec_l01Unit spec_l01Apply spec_l01Plus spec_l01In spec_l09Hull spec_MapPolygon_l7 n)) allN)

/-! loop.example/g01297/impl.in -/
abbrev h41_x {α : Type}  : Nat → Ctx α := ctxS false M eqs jt0 [] []
def h41_b {α : Type}  (_ : Nat) (n_ : Int) (low : Int) (high : Int) (r0 : Bool → Option α) : Option α :=
  bif decide (low ≤ n_) then
    r0 (decide (n_ ≤ high))
  else
    r0 false
theorem h41_g {α : Type}  (n : Nat) : GenF (α := α) Try.prog Try.f41 S4 (h41_x n) n (h41_b) := by intro _ _ _ _; kernel_rfl
theorem h41_good {α : Type} : ∀ n, GoodFn (α := α) Try.prog 41 (byShape S4.sh (callS S4 impl_in n)) := good_of Try.func41 (by kernel_rfl) (by kernel_rfl) (by kernel_rfl) eqs_ok (fun n => h41_g n) (by delta h41_b impl_in; rfl) allN allN

/-! loop.example/g01297/impl.isCoord -/
abbrev h44_x {α : Type} (F0 : T2 α) : Nat → Ctx α := ctxS false M eqs jt0 [⟨41, S4, F0⟩] []
def h44_b {α : Type} (F0 : T2 α) (k : Nat) (n_ : Int) (r0 : Bool → Option α) : Option α :=
  F0 k n_ (-1000000) 1000000 fun v =>
  r0 v
theorem h44_g {α : Type} (F0 : T2 α) (n : Nat) : GenF (α := α) Try.prog Try.f44 S5 (h44_x F0 n) n (h44_b F0) := by intro _ _; kernel_rfl
theorem h44_good {α : Type} : ∀ n, GoodFn (α := α) Try.prog 44 (byShape S5.sh (callS S5 impl_isCoord n)) := good_of Try.func44 (by kernel_rfl) (by kernel_rfl) (by kernel_rfl) eqs_ok (fun n => h44_g impl_in n) (by delta h44_b impl_isCoord; rfl) (allC h41_good allN) allN

/-! loop.example/g01297/impl.IsPoint -/
abbrev h24_x {α : Type} (F0 : T3 α) : Nat → Ctx α := ctxS false M eqs jt0 [⟨44, S5, F0⟩] []
def h24_b {α : Type} (F0 : T3 α) (k : Nat) (a : Int) (a1 : Int) (r0 : Bool → Option α) : Option α :=
  F0 k a fun v =>
  bif v then
    F0 k a1 fun v1 =>
    r0 v1
  else
    r0 false
theorem h24_g {α : Type} (F0 : T3 α) (n : Nat) : GenF (α := α) Try.prog Try.f24 S7 (h24_x F0 n) n (h24_b F0) := by intro _ _ _; kernel_rfl
theorem h24_good {α : Type} : ∀ n, GoodFn (α := α) Try.prog 24 (byShape S7.sh (callS S7 impl_IsPoint n)) := good_of Try.func24 (by kernel_rfl) (by kernel_rfl) (by kernel_rfl) eqs_ok (fun n => h24_g impl_isCoord n) (by delta h24_b impl_IsPoint; rfl) (allC h44_good allN) allN

/-! loop.example/g01297/impl.points$1 -/
abbrev h55_x {α : Type} (F0 : T6 α) : Nat → Ctx α := ctxS false M eqs jt0 [⟨24, S7, F0⟩] []
def h55_b {α : Type} (F0 : T6 α) (k : Nat) (a : Int) (a1 : Int) (r0 : Bool → Option α) : Option α :=
  F0 k a a1 fun v =>
  r0 (!v)
theorem h55_g {α : Type} (F0 : T6 α) (n : Nat) : GenF (α := α) Try.prog Try.f55 S7 (h55_x F0 n) n (h55_b F0) := by intro _ _ _; kernel_rfl
theorem h55_good {α : Type} : ∀ n, GoodFn (α := α) Try.prog 55 (byShape S7.sh (callS S7 impl_points_1 n)) := good_of Try.func55 (by kernel_rfl) (by kernel_rfl) (by kernel_rfl) eqs_ok (fun n => h55_g impl_IsPoint n) (by delta h55_b impl_points_1; rfl) (allC h24_good allN) allN

/-! slices.IndexFunc[[]loop.example/g01297/impl.Point,loop.example/g01297/impl.Point] -/
def h47_t2 : Tpl := ⟨(.sl 0 :: (.fn 55 [] :: (anyN 5 (.int .i64 :: (.int .i64 :: (anyN 10 [])))))), [(0, .rows 0 32 .pt)], [], false⟩
def h47_p2 : PcS := loopS [.int, .int, .rows .pt] [0]
abbrev h47_x {α : Type} (F0 : T6 α) (G2 : T18 α) : Nat → Ctx α := ctxS false M eqs jt0 [⟨55, S7, F0⟩] [lpT 2 h47_t2 h47_p2 R0 G2]
def h47_b2 {α : Type} (F0 : T6 α) (G2 : T18 α) (k : Nat) (x : Int) (x1 : Int) (s1 : List (Int × Int)) (b0 : Int → Int → (List (Int × Int)) → Option α) (r0 : Int → Option α) : Option α :=
  bif decide (x1 < x) then
    bif (decide (0 ≤ x1) && decide (x1 < (((List.length s1) : Nat) : Int))) then
      (s1[x1.toNat]?).bind fun e_ =>
      F0 k e_.1 e_.2 fun v =>
      bif v then
        r0 x1
      else
        G2 k x (w64 (x1 + 1)) s1 b0 r0
    else
      none
  else
    b0 x x1 s1
theorem h47_g2 {α : Type} (F0 : T6 α) (G2 : T18 α) (n : Nat) : GenL (α := α) Try.prog Try.f47 S18 (h47_x F0 G2 n) 2 h47_t2 h47_p2 n G2 (h47_b2 F0 G2) := by intro _ _ _ _ _; kernel_rfl
def h47_b {α : Type} (G2 : T18 α) (k : Nat) (s : List (Int × Int)) (r0 : Int → Option α) : Option α :=
  G2 k (((List.length s) : Nat) : Int) 0 s
    (fun _ _ _ =>
      r0 (-1))
    r0
theorem h47_g {α : Type} (F0 : T6 α) (G2 : T18 α) (n : Nat) : GenF (α := α) Try.prog Try.f47 S18 (h47_x F0 G2 n) n (h47_b G2) := by intro _ _; kernel_rfl
theorem h47_good {α : Type} : ∀ n, GoodFn (α := α) Try.prog 47 (byShape S18.sh (callS S18 slices_IndexFunc_impl_Point_impl_Point_1F_impl_points_1 n)) := good_of Try.func47 (by kernel_rfl) (by kernel_rfl) (by kernel_rfl) eqs_ok (fun n => h47_g impl_points_1 slices_IndexFunc_impl_Point_impl_Point_1F_impl_points_1_l2 n) (by delta h47_b slices_IndexFunc_impl_Point_impl_Point_1F_impl_points_1; rfl) (allC h55_good allN) (allC (loop_fine (by kernel_rfl) (fun n => by delta h47_b2; funext _ _ _ _ _; exact (slices_IndexFunc_impl_Point_impl_Point_1F_impl_points_1_l2.eq_2 ..).symm) (fun n => h47_g2 impl_points_1 slices_IndexFunc_impl_Point_impl_Point_1F_impl_points_1_l2 n)) allN)

/-! slices.ContainsFunc[[]loop.example/g01297/impl.Point,loop.example/g01297/impl.Point] -/
abbrev h28_x {α : Type} (F0 : T19 α) : Nat → Ctx α := ctxS false M eqs jt0 [⟨47, S18, F0⟩] []
def h28_b {α : Type} (F0 : T19 α) (k : Nat) (s : List (Int × Int)) (r0 : Bool → Option α) : Option α :=
  F0 k s fun v =>
  r0 (decide (0 ≤ v))
theorem h28_g {α : Type} (F0 : T19 α) (n : Nat) : GenF (α := α) Try.prog Try.f28 S19 (h28_x F0 n) n (h28_b F0) := by intro _ _; kernel_rfl
theorem h28_good {α : Type} : ∀ n, GoodFn (α := α) Try.prog 28 (byShape S19.sh (callS S19 slices_ContainsFunc_impl_Point_impl_Point_1F_impl_points_1 n)) := good_of Try.func28 (by kernel_rfl) (by kernel_rfl) (by kernel_rfl) eqs_ok (fun n => h28_g slices_IndexFunc_impl_Point_impl_Point_1F_impl_points_1 n) (by delta h28_b slices_ContainsFunc_impl_Point_impl_Point_1F_impl_points_1; rfl) (allC h47_good allN) allN

/-! loop.example/g01297/impl.points -/
abbrev h40_x {α : Type} (F0 : T14 α) : Nat → Ctx α := ctxS false M eqs jt0 [⟨28, S19, F0⟩] []
def h40_b {α : Type} (F0 : T14 α) (k : Nat) (list : List (Int × Int)) (r0 : Bool → Option α) : Option α :=
  F0 k list fun v =>
  r0 (!v)
theorem h40_g {α : Type} (F0 : T14 α) (n : Nat) : GenF (α := α) Try.prog Try.f40 S12 (h40_x F0 n) n (h40_b F0) := by intro _ _; kernel_rfl
theorem h40_good {α : Type} : ∀ n, GoodFn (α := α) Try.prog 40 (byShape S12.sh (callS S12 impl_points n)) := good_of Try.func40 (by kernel_rfl) (by kernel_rfl) (by kernel_rfl) eqs_ok (fun n => h40_g slices_ContainsFunc_impl_Point_impl_Point_1F_impl_points_1 n) (by delta h40_b impl_points; rfl) (allC h28_good allN) allN

/-! loop.example/g01297/impl.IsMatrix -/
abbrev h22_x {α : Type} (F0 : T14 α) : Nat → Ctx α := ctxS false M eqs jt0 [⟨40, S12, F0⟩] []
def h22_b {α : Type} (F0 : T14 α) (k : Nat) (m : Int) (m1 : Int) (m2 : Int) (m3 : Int) (r0 : Bool → Option α) : Option α :=
  F0 k [(m, m1), (m2, m3)] fun v =>
  r0 v
theorem h22_g {α : Type} (F0 : T14 α) (n : Nat) : GenF (α := α) Try.prog Try.f22 S6 (h22_x F0 n) n (h22_b F0) := by intro _ _ _ _ _; kernel_rfl
theorem h22_good {α : Type} : ∀ n, GoodFn (α := α) Try.prog 22 (byShape S6.sh (callS S6 impl_IsMatrix n)) := good_of Try.func22 (by kernel_rfl) (by kernel_rfl) (by kernel_rfl) eqs_ok (fun n => h22_g impl_points n) (by delta h22_b impl_IsMatrix; rfl) (allC h40_good allN) allN

/-! loop.example/g01297/impl.small -/
abbrev h30_x {α : Type} (F0 : T2 α) : Nat → Ctx α := ctxS false M eqs jt0 [⟨41, S4, F0⟩] []
def h30_b {α : Type} (F0 : T2 α) (k : Nat) (a : Int) (a1 : Int) (r0 : Bool → Option α) : Option α :=
  F0 k a (-1000) 1000 fun v =>
  bif v then
    F0 k a1 (-1000) 1000 fun v1 =>
    r0 v1
  else
    r0 false
theorem h30_g {α : Type} (F0 : T2 α) (n : Nat) : GenF (α := α) Try.prog Try.f30 S7 (h30_x F0 n) n (h30_b F0) := by intro _ _ _; kernel_rfl
theorem h30_good {α : Type} : ∀ n, GoodFn (α := α) Try.prog 30 (byShape S7.sh (callS S7 impl_small n)) := good_of Try.func30 (by kernel_rfl) (by kernel_rfl) (by kernel_rfl) eqs_ok (fun n => h30_g impl_in n) (by delta h30_b impl_small; rfl) (allC h41_good allN) allN

/-! loop.example/g01297/impl.IsPolygon$1 -/
abbrev h42_x {α : Type} (F0 : T6 α) : Nat → Ctx α := ctxS false M eqs jt0 [⟨30, S7, F0⟩] []
def h42_b {α : Type} (F0 : T6 α) (k : Nat) (a : Int) (a1 : Int) (r0 : Bool → Option α) : Option α :=
  F0 k a a1 fun v =>
  r0 (!v)
theorem h42_g {α : Type} (F0 : T6 α) (n : Nat) : GenF (α := α) Try.prog Try.f42 S7 (h42_x F0 n) n (h42_b F0) := by intro _ _ _; kernel_rfl
theorem h42_good {α : Type} : ∀ n, GoodFn (α := α) Try.prog 42 (byShape S7.sh (callS S7 impl_IsPolygon_1 n)) := good_of Try.func42 (by kernel_rfl) (by kernel_rfl) (by kernel_rfl) eqs_ok (fun n => h42_g impl_small n) (by delta h42_b impl_IsPolygon_1; rfl) (allC h30_good allN) allN

/-! slices.IndexFunc[[]loop.example/g01297/impl.Point,loop.example/g01297/impl.Point] -/
def h47a_t2 : Tpl := ⟨(.sl 0 :: (.fn 42 [] :: (anyN 5 (.int .i64 :: (.int .i64 :: (anyN 10 [])))))), [(0, .rows 0 32 .pt)], [], false⟩
def h47a_p2 : PcS := loopS [.int, .int, .rows .pt] [0]
abbrev h47a_x {α : Type} (F0 : T6 α) (G2 : T18 α) : Nat → Ctx α := ctxS false M eqs jt0 [⟨42, S7, F0⟩] [lpT 2 h47a_t2 h47a_p2 R0 G2]
def h47a_b2 {α : Type} (F0 : T6 α) (G2 : T18 α) (k : Nat) (x : Int) (x1 : Int) (s1 : List (Int × Int)) (b0 : Int → Int → (List (Int × Int)) → Option α) (r0 : Int → Option α) : Option α :=
  bif decide (x1 < x) then
    bif (decide (0 ≤ x1) && decide (x1 < (((List.length s1) : Nat) : Int))) then
      (s1[x1.toNat]?).bind fun e_ =>
      F0 k e_.1 e_.2 fun v =>
      bif v then
        r0 x1
      else
        G2 k x (w64 (x1 + 1)) s1 b0 r0
    else
      none
  else
    b0 x x1 s1
theorem h47a_g2 {α : Type} (F0 : T6 α) (G2 : T18 α) (n : Nat) : GenL (α := α) Try.prog Try.f47 S20 (h47a_x F0 G2 n) 2 h47a_t2 h47a_p2 n G2 (h47a_b2 F0 G2) := by intro _ _ _ _ _; kernel_rfl
def h47a_b {α : Type} (G2 : T18 α) (k : Nat) (s : List (Int × Int)) (r0 : Int → Option α) : Option α :=
  G2 k (((List.length s) : Nat) : Int) 0 s
    (fun _ _ _ =>
      r0 (-1))
    r0
theorem h47a_g {α : Type} (F0 : T6 α) (G2 : T18 α) (n : Nat) : GenF (α := α) Try.prog Try.f47 S20 (h47a_x F0 G2 n) n (h47a_b G2) := by intro _ _; kernel_rfl
theorem h47a_good {α : Type} : ∀ n, GoodFn (α := α) Try.prog 47 (byShape S20.sh (callS S20 slices_IndexFunc_impl_Point_impl_Point_1F_impl_IsPolygon_1 n)) := good_of Try.func47 (by kernel_rfl) (by kernel_rfl) (by kernel_rfl) eqs_ok (fun n => h47a_g impl_IsPolygon_1 slices_IndexFunc_impl_Point_impl_Point_1F_impl_IsPolygon_1_l2 n) (by delta h47a_b slices_IndexFunc_impl_Point_impl_Point_1F_impl_IsPolygon_1; rfl) (allC h42_good allN) (allC (loop_fine (by kernel_rfl) (fun n => by delta h47a_b2; funext _ _ _ _ _; exact (slices_IndexFunc_impl_Point_impl_Point_1F_impl_IsPolygon_1_l2.eq_2 ..).symm) (fun n => h47a_g2 impl_IsPolygon_1 slices_IndexFunc_impl_Point_impl_Point_1F_impl_IsPolygon_1_l2 n)) allN)

/-! slices.ContainsFunc[[]loop.example/g01297/impl.Point,loop.example/g01297/impl.Point] -/
abbrev h28a_x {α : Type} (F0 : T19 α) : Nat → Ctx α := ctxS false M eqs jt0 [⟨47, S20, F0⟩] []
def h28a_b {α : Type} (F0 : T19 α) (k : Nat) (s : List (Int × Int)) (r0 : Bool → Option α) : Option α :=
  F0 k s fun v =>
  r0 (decide (0 ≤ v))
theorem h28a_g {α : Type} (F0 : T19 α) (n : Nat) : GenF (α := α) Try.prog Try.f28 S21 (h28a_x F0 n) n (h28a_b F0) := by intro _ _; kernel_rfl
theorem h28a_good {α : Type} : ∀ n, GoodFn (α := α) Try.prog 28 (byShape S21.sh (callS S21 slices_ContainsFunc_impl_Point_impl_Point_1F_impl_IsPolygon_1 n)) := good_of Try.func28 (by kernel_rfl) (by kernel_rfl) (by kernel_rfl) eqs_ok (fun n => h28a_g slices_IndexFunc_impl_Point_impl_Point_1F_impl_IsPolygon_1 n) (by delta h28a_b slices_ContainsFunc_impl_Point_impl_Point_1F_impl_IsPolygon_1; rfl) (allC h47a_good allN) allN

/-! (loop.example/g01297/impl.polygon).next -/
abbrev h56_x {α : Type}  : Nat → Ctx α := ctxS false M eqs jt0 [] []
def h56_b {α : Type}  (_ : Nat) (p_ : List (Int × Int)) (i : Int) (r0 : Int → Int → Option α) : Option α :=
  bif decide ((((List.length p_) : Nat) : Int) = 0) then
    none
  else
  bif (decide (0 ≤ (Int.tmod (w64 (i + 1)) (((List.length p_) : Nat) : Int))) && decide ((Int.tmod (w64 (i + 1)) (((List.length p_) : Nat) : Int)) < (((List.length p_) : Nat) : Int))) then
    (p_[(Int.tmod (w64 (i + 1)) (((List.length p_) : Nat) : Int)).toNat]?).bind fun e_ =>
    r0 e_.1 e_.2
  else
    none
theorem h56_g {α : Type}  (n : Nat) : GenF (α := α) Try.prog Try.f56 S22 (h56_x n) n (h56_b) := by intro _ _ _; kernel_rfl
theorem h56_good {α : Type} : ∀ n, GoodFn (α := α) Try.prog 56 (byShape S22.sh (callS S22 impl_polygon_next n)) := good_of Try.func56 (by kernel_rfl) (by kernel_rfl) (by kernel_rfl) eqs_ok (fun n => h56_g n) (by delta h56_b impl_polygon_next; rfl) allN allN

/-! (loop.example/g01297/impl.Point).plus -/
abbrev h27_x {α : Type}  : Nat → Ctx α := ctxS false M eqs jt0 [] []
def h27_b {α : Type}  (_ : Nat) (a : Int) (a1 : Int) (b_ : Int) (b_1 : Int) (k_ : Int) (r0 : Int → Int → Option α) : Option α :=
  r0 (w64 (a + (w64 (k_ * b_)))) (w64 (a1 + (w64 (k_ * b_1))))
theorem h27_g {α : Type}  (n : Nat) : GenF (α := α) Try.prog Try.f27 S8 (h27_x n) n (h27_b) := by intro _ _ _ _ _ _; kernel_rfl
theorem h27_good {α : Type} : ∀ n, GoodFn (α := α) Try.prog 27 (byShape S8.sh (callS S8 impl_Point_plus n)) := good_of Try.func27 (by kernel_rfl) (by kernel_rfl) (by kernel_rfl) eqs_ok (fun n => h27_g n) (by delta h27_b impl_Point_plus; rfl) allN allN

/-! (loop.example/g01297/impl.Point).less -/
abbrev h64_x {α : Type} (F0 : T4 α) : Nat → Ctx α := ctxS false M eqs jt0 [⟨27, S8, F0⟩] []
def h64_b {α : Type} (F0 : T4 α) (k : Nat) (a : Int) (a1 : Int) (b_ : Int) (b_1 : Int) (r0 : Int → Int → Option α) : Option α :=
  F0 k a a1 b_ b_1 (-1) fun v v1 =>
  r0 v v1
theorem h64_g {α : Type} (F0 : T4 α) (n : Nat) : GenF (α := α) Try.prog Try.f64 S23 (h64_x F0 n) n (h64_b F0) := by intro _ _ _ _ _; kernel_rfl
theorem h64_good {α : Type} : ∀ n, GoodFn (α := α) Try.prog 64 (byShape S23.sh (callS S23 impl_Point_less n)) := good_of Try.func64 (by kernel_rfl) (by kernel_rfl) (by kernel_rfl) eqs_ok (fun n => h64_g impl_Point_plus n) (by delta h64_b impl_Point_less; rfl) (allC h27_good allN) allN

/-! loop.example/g01297/impl.det -/
abbrev h58_x {α : Type}  : Nat → Ctx α := ctxS false M eqs jt0 [] []
def h58_b {α : Type}  (_ : Nat) (a : Int) (a1 : Int) (b_ : Int) (b_1 : Int) (r0 : Int → Option α) : Option α :=
  r0 (w64 ((w64 (a * b_1)) - (w64 (a1 * b_))))
theorem h58_g {α : Type}  (n : Nat) : GenF (α := α) Try.prog Try.f58 S9 (h58_x n) n (h58_b) := by intro _ _ _ _ _; kernel_rfl
theorem h58_good {α : Type} : ∀ n, GoodFn (α := α) Try.prog 58 (byShape S9.sh (callS S9 impl_det n)) := good_of Try.func58 (by kernel_rfl) (by kernel_rfl) (by kernel_rfl) eqs_ok (fun n => h58_g n) (by delta h58_b impl_det; rfl) allN allN

/-! loop.example/g01297/impl.turn -/
abbrev h57_x {α : Type} (F0 : T20 α) (F1 : T5 α) : Nat → Ctx α := ctxS false M eqs jt0 [⟨64, S23, F0⟩, ⟨58, S9, F1⟩] []
def h57_b {α : Type} (F0 : T20 α) (F1 : T5 α) (k : Nat) (a : Int) (a1 : Int) (b_ : Int) (b_1 : Int) (c : Int) (c1 : Int) (r0 : Int → Option α) : Option α :=
  F0 k b_ b_1 a a1 fun v v1 =>
  F0 k c c1 b_ b_1 fun v2 v3 =>
  F1 k v v1 v2 v3 fun v4 =>
  r0 v4
theorem h57_g {α : Type} (F0 : T20 α) (F1 : T5 α) (n : Nat) : GenF (α := α) Try.prog Try.f57 S10 (h57_x F0 F1 n) n (h57_b F0 F1) := by intro _ _ _ _ _ _ _; kernel_rfl
theorem h57_good {α : Type} : ∀ n, GoodFn (α := α) Try.prog 57 (byShape S10.sh (callS S10 impl_turn n)) := good_of Try.func57 (by kernel_rfl) (by kernel_rfl) (by kernel_rfl) eqs_ok (fun n => h57_g impl_Point_less impl_det n) (by delta h57_b impl_turn; rfl) (allC h64_good (allC h58_good allN)) allN

/-! (loop.example/g01297/impl.polygon).convex -/
def h43_t6 : Tpl := ⟨(.sl 0 :: (.any :: (.any :: (.int .i64 :: (.ptr 256 0 0 :: (.ptr 320 0 0 :: (.any :: (.any :: (.sl 0 :: (.int .i64 :: (.int .i64 :: (anyN 7 (.sl 0 :: (.int .i64 :: (.int .i64 :: (anyN 25 [])))))))))))))))), [(0, .rows 0 32 .pt), (256, .ints 2 32 .i64 2), (320, .ints 2 32 .i64 2)], [], false⟩
def h43_p6 : PcS := loopS [.int, .int, .int, .int, .int, .rows .pt, .int, .int, .int, .int] [2]
def h43_t2 : Tpl := ⟨(.sl 0 :: (anyN 7 (.sl 0 :: (.int .i64 :: (.int .i64 :: (anyN 35 [])))))), [(0, .rows 0 32 .pt)], [], false⟩
def h43_p2 : PcS := loopS [.int, .int, .rows .pt] [0]
abbrev h43_x {α : Type} (F0 : T21 α) (F1 : T7 α) (G6 : T22 α) (G2 : T23 α) : Nat → Ctx α := ctxS false M eqs jt0 [⟨56, S22, F0⟩, ⟨57, S10, F1⟩] [lpT 6 h43_t6 h43_p6 R4 G6, lpT 2 h43_t2 h43_p2 R4 G2]
def h43_b6 {α : Type} (F1 : T7 α) (G6 : T22 α) (k : Nat) (i : Int) (x2 : Int) (x3 : Int) (x4 : Int) (x5 : Int) (p_2 : List (Int × Int)) (a : Int) (a1 : Int) (b_ : Int) (b_1 : Int) (b2 : Int → Int → Int → Int → Int → (List (Int × Int)) → Int → Int → Int → Int → Option α) (r0 : Bool → Option α) : Option α :=
  bif decide (x5 < x4) then
    bif (decide (0 ≤ x5) && decide (x5 < (((List.length p_2) : Nat) : Int))) then
      (p_2[x5.toNat]?).bind fun e_1 =>
      bif (!decide (x5 = i)) then
        bif decide ((((List.length p_2) : Nat) : Int) = 0) then
          none
        else
        bif (!decide (x5 = (Int.tmod (w64 (i + 1)) (((List.length p_2) : Nat) : Int)))) then
          F1 k a a1 b_ b_1 e_1.1 e_1.2 fun v2 =>
          bif decide (v2 ≤ 0) then
            r0 false
          else
            G6 k i x2 x3 x4 (w64 (x5 + 1)) p_2 a a1 b_ b_1 b2 r0
        else
          G6 k i x2 x3 x4 (w64 (x5 + 1)) p_2 a a1 b_ b_1 b2 r0
      else
        G6 k i x2 x3 x4 (w64 (x5 + 1)) p_2 a a1 b_ b_1 b2 r0
    else
      none
  else
    b2 i x2 x3 x4 x5 p_2 a a1 b_ b_1
theorem h43_g6 {α : Type} (F0 : T21 α) (F1 : T7 α) (G6 : T22 α) (G2 : T23 α) (n : Nat) : GenL (α := α) Try.prog Try.f43 S12 (h43_x F0 F1 G6 G2 n) 6 h43_t6 h43_p6 n G6 (h43_b6 F1 G6) := by intro _ _ _ _ _ _ _ _ _ _ _ _; kernel_rfl
def h43_b2 {α : Type} (F0 : T21 α) (G6 : T22 α) (G2 : T23 α) (k : Nat) (x : Int) (x1 : Int) (p_1 : List (Int × Int)) (b0 : Int → Int → (List (Int × Int)) → Option α) (r0 : Bool → Option α) : Option α :=
  bif decide (x1 < x) then
    bif (decide (0 ≤ x1) && decide (x1 < (((List.length p_1) : Nat) : Int))) then
      (p_1[x1.toNat]?).bind fun e_ =>
      F0 k p_1 x1 fun v v1 =>
      G6 k x1 x x1 (((List.length p_1) : Nat) : Int) 0 p_1 e_.1 e_.2 v v1
        (fun _ x6 x7 _ _ p_3 _ _ _ _ =>
          G2 k x6 (w64 (x7 + 1)) p_3 b0 r0)
        r0
    else
      none
  else
    b0 x x1 p_1
theorem h43_g2 {α : Type} (F0 : T21 α) (F1 : T7 α) (G6 : T22 α) (G2 : T23 α) (n : Nat) : GenL (α := α) Try.prog Try.f43 S12 (h43_x F0 F1 G6 G2 n) 2 h43_t2 h43_p2 n G2 (h43_b2 F0 G6 G2) := by intro _ _ _ _ _; kernel_rfl
def h43_b {α : Type} (G2 : T23 α) (k : Nat) (p_ : List (Int × Int)) (r0 : Bool → Option α) : Option α :=
  G2 k (((List.length p_) : Nat) : Int) 0 p_
    (fun _ _ _ =>
      r0 true)
    r0
theorem h43_g {α : Type} (F0 : T21 α) (F1 : T7 α) (G6 : T22 α) (G2 : T23 α) (n : Nat) : GenF (α := α) Try.prog Try.f43 S12 (h43_x F0 F1 G6 G2 n) n (h43_b G2) := by intro _ _; kernel_rfl
theorem h43_good {α : Type} : ∀ n, GoodFn (α := α) Try.prog 43 (byShape S12.sh (callS S12 impl_polygon_convex n)) := good_of Try.func43 (by kernel_rfl) (by kernel_rfl) (by kernel_rfl) eqs_ok (fun n => h43_g impl_polygon_next impl_turn impl_polygon_convex_l6 impl_polygon_convex_l2 n) (by delta h43_b impl_polygon_convex; rfl) (allC h56_good (allC h57_good allN)) (allC (loop_fine (by kernel_rfl) (fun n => by delta h43_b6; funext _ _ _ _ _ _ _ _ _ _ _ _; exact (impl_polygon_convex_l6.eq_2 ..).symm) (fun n => h43_g6 impl_polygon_next impl_turn impl_polygon_convex_l6 impl_polygon_convex_l2 n)) (allC (loop_fine (by kernel_rfl) (fun n => by delta h43_b2; funext _ _ _ _ _; exact (impl_polygon_convex_l2.eq_2 ..).symm) (fun n => h43_g2 impl_polygon_next impl_turn impl_polygon_convex_l6 impl_polygon_convex_l2 n)) allN))

/-! loop.example/g01297/impl.IsPolygon -/
abbrev h23_x {α : Type} (F0 : T2 α) (F1 : T14 α) (F2 : T14 α) : Nat → Ctx α := ctxS false M eqs jt0 [⟨41, S4, F0⟩, ⟨28, S21, F1⟩, ⟨43, S12, F2⟩] []
def h23_b {α : Type} (F0 : T2 α) (F1 : T14 α) (F2 : T14 α) (k : Nat) (list : List (Int × Int)) (r0 : Bool → Option α) : Option α :=
  F0 k (((List.length list) : Nat) : Int) 3 12 fun v =>
  bif (!v) then
    r0 false
  else
    F1 k list fun v1 =>
    bif v1 then
      r0 false
    else
      F2 k list fun v2 =>
      r0 v2
theorem h23_g {α : Type} (F0 : T2 α) (F1 : T14 α) (F2 : T14 α) (n : Nat) : GenF (α := α) Try.prog Try.f23 S12 (h23_x F0 F1 F2 n) n (h23_b F0 F1 F2) := by intro _ _; kernel_rfl
theorem h23_good {α : Type} : ∀ n, GoodFn (α := α) Try.prog 23 (byShape S12.sh (callS S12 impl_IsPolygon n)) := good_of Try.func23 (by kernel_rfl) (by kernel_rfl) (by kernel_rfl) eqs_ok (fun n => h23_g impl_in slices_ContainsFunc_impl_Point_impl_Point_1F_impl_IsPolygon_1 impl_polygon_convex n) (by delta h23_b impl_IsPolygon; rfl) (allC h41_good (allC h28a_good (allC h43_good allN))) allN

/-! (loop.example/g01297/impl.Matrix).det -/
abbrev h46_x {α : Type} (F0 : T5 α) : Nat → Ctx α := ctxS false M eqs jt0 [⟨58, S9, F0⟩] []
def h46_b {α : Type} (F0 : T5 α) (k : Nat) (m : Int) (m1 : Int) (m2 : Int) (m3 : Int) (r0 : Int → Option α) : Option α :=
  F0 k m m1 m2 m3 fun v =>
  r0 v
theorem h46_g {α : Type} (F0 : T5 α) (n : Nat) : GenF (α := α) Try.prog Try.f46 S13 (h46_x F0 n) n (h46_b F0) := by intro _ _ _ _ _; kernel_rfl
theorem h46_good {α : Type} : ∀ n, GoodFn (α := α) Try.prog 46 (byShape S13.sh (callS S13 impl_Matrix_det n)) := good_of Try.func46 (by kernel_rfl) (by kernel_rfl) (by kernel_rfl) eqs_ok (fun n => h46_g impl_det n) (by delta h46_b impl_Matrix_det; rfl) (allC h58_good allN) allN

/-! loop.example/g01297/impl.size -/
abbrev h45_x {α : Type}  : Nat → Ctx α := ctxS false M eqs jt0 [] []
def h45_b {α : Type}  (_ : Nat) (n_ : Int) (r0 : Int → Option α) : Option α :=
  r0 (max n_ (w64 (0 - n_)))
theorem h45_g {α : Type}  (n : Nat) : GenF (α := α) Try.prog Try.f45 S24 (h45_x n) n (h45_b) := by intro _ _; kernel_rfl
theorem h45_good {α : Type} : ∀ n, GoodFn (α := α) Try.prog 45 (byShape S24.sh (callS S24 impl_size n)) := good_of Try.func45 (by kernel_rfl) (by kernel_rfl) (by kernel_rfl) eqs_ok (fun n => h45_g n) (by delta h45_b impl_size; rfl) allN allN

/-! (loop.example/g01297/impl.Matrix).unimodular -/
abbrev h25_x {α : Type} (F0 : T5 α) (F1 : T24 α) : Nat → Ctx α := ctxS false M eqs jt0 [⟨46, S13, F0⟩, ⟨45, S24, F1⟩] []
def h25_b {α : Type} (F0 : T5 α) (F1 : T24 α) (k : Nat) (m : Int) (m1 : Int) (m2 : Int) (m3 : Int) (r0 : Bool → Option α) : Option α :=
  F0 k m m1 m2 m3 fun v =>
  F1 k v fun v1 =>
  r0 (decide (v1 = 1))
theorem h25_g {α : Type} (F0 : T5 α) (F1 : T24 α) (n : Nat) : GenF (α := α) Try.prog Try.f25 S6 (h25_x F0 F1 n) n (h25_b F0 F1) := by intro _ _ _ _ _; kernel_rfl
theorem h25_good {α : Type} : ∀ n, GoodFn (α := α) Try.prog 25 (byShape S6.sh (callS S6 impl_Matrix_unimodular n)) := good_of Try.func25 (by kernel_rfl) (by kernel_rfl) (by kernel_rfl) eqs_ok (fun n => h25_g impl_Matrix_det impl_size n) (by delta h25_b impl_Matrix_unimodular; rfl) (allC h46_good (allC h45_good allN)) allN

/-! (loop.example/g01297/impl.Matrix).apply -/
abbrev h26_x {α : Type}  : Nat → Ctx α := ctxS false M eqs jt0 [] []
def h26_b {α : Type}  (_ : Nat) (m : Int) (m1 : Int) (m2 : Int) (m3 : Int) (a : Int) (a1 : Int) (r0 : Int → Int → Option α) : Option α :=
  r0 (w64 ((w64 (m * a)) + (w64 (m1 * a1)))) (w64 ((w64 (m2 * a)) + (w64 (m3 * a1))))
theorem h26_g {α : Type}  (n : Nat) : GenF (α := α) Try.prog Try.f26 S14 (h26_x n) n (h26_b) := by intro _ _ _ _ _ _ _; kernel_rfl
theorem h26_good {α : Type} : ∀ n, GoodFn (α := α) Try.prog 26 (byShape S14.sh (callS S14 impl_Matrix_apply n)) := good_of Try.func26 (by kernel_rfl) (by kernel_rfl) (by kernel_rfl) eqs_ok (fun n => h26_g n) (by delta h26_b impl_Matrix_apply; rfl) allN allN

/-! loop.example/g01297/impl.MapPolygon$1 -/
abbrev h29_x {α : Type} (F0 : T6 α) : Nat → Ctx α := ctxS false M eqs jt0 [⟨30, S7, F0⟩] []
def h29_b {α : Type} (F0 : T6 α) (k : Nat) (a : Int) (a1 : Int) (r0 : Bool → Option α) : Option α :=
  F0 k a a1 fun v =>
  r0 (!v)
theorem h29_g {α : Type} (F0 : T6 α) (n : Nat) : GenF (α := α) Try.prog Try.f29 S7 (h29_x F0 n) n (h29_b F0) := by intro _ _ _; kernel_rfl
theorem h29_good {α : Type} : ∀ n, GoodFn (α := α) Try.prog 29 (byShape S7.sh (callS S7 impl_MapPolygon_1 n)) := good_of Try.func29 (by kernel_rfl) (by kernel_rfl) (by kernel_rfl) eqs_ok (fun n => h29_g impl_small n) (by delta h29_b impl_MapPolygon_1; rfl) (allC h30_good allN) allN

/-! slices.IndexFunc[[]loop.example/g01297/impl.Point,loop.example/g01297/impl.Point] -/
def h47b_t2 : Tpl := ⟨(.sl 0 :: (.fn 29 [] :: (anyN 5 (.int .i64 :: (.int .i64 :: (anyN 10 [])))))), [(0, .rows 0 32 .pt)], [], false⟩
def h47b_p2 : PcS := loopS [.int, .int, .rows .pt] [0]
abbrev h47b_x {α : Type} (F0 : T6 α) (G2 : T18 α) : Nat → Ctx α := ctxS false M eqs jt0 [⟨29, S7, F0⟩] [lpT 2 h47b_t2 h47b_p2 R0 G2]
def h47b_b2 {α : Type} (F0 : T6 α) (G2 : T18 α) (k : Nat) (x : Int) (x1 : Int) (s1 : List (Int × Int)) (b0 : Int → Int → (List (Int × Int)) → Option α) (r0 : Int → Option α) : Option α :=
  bif decide (x1 < x) then
    bif (decide (0 ≤ x1) && decide (x1 < (((List.length s1) : Nat) : Int))) then
      (s1[x1.toNat]?).bind fun e_ =>
      F0 k e_.1 e_.2 fun v =>
      bif v then
        r0 x1
      else
        G2 k x (w64 (x1 + 1)) s1 b0 r0
    else
      none
  else
    b0 x x1 s1
theorem h47b_g2 {α : Type} (F0 : T6 α) (G2 : T18 α) (n : Nat) : GenL (α := α) Try.prog Try.f47 S25 (h47b_x F0 G2 n) 2 h47b_t2 h47b_p2 n G2 (h47b_b2 F0 G2) := by intro _ _ _ _ _; kernel_rfl
def h47b_b {α : Type} (G2 : T18 α) (k : Nat) (s : List (Int × Int)) (r0 : Int → Option α) : Option α :=
  G2 k (((List.length s) : Nat) : Int) 0 s
    (fun _ _ _ =>
      r0 (-1))
    r0
theorem h47b_g {α : Type} (F0 : T6 α) (G2 : T18 α) (n : Nat) : GenF (α := α) Try.prog Try.f47 S25 (h47b_x F0 G2 n) n (h47b_b G2) := by intro _ _; kernel_rfl
theorem h47b_good {α : Type} : ∀ n, GoodFn (α := α) Try.prog 47 (byShape S25.sh (callS S25 slices_IndexFunc_impl_Point_impl_Point_1F_impl_MapPolygon_1 n)) := good_of Try.func47 (by kernel_rfl) (by kernel_rfl) (by kernel_rfl) eqs_ok (fun n => h47b_g impl_MapPolygon_1 slices_IndexFunc_impl_Point_impl_Point_1F_impl_MapPolygon_1_l2 n) (by delta h47b_b slices_IndexFunc_impl_Point_impl_Point_1F_impl_MapPolygon_1; rfl) (allC h29_good allN) (allC (loop_fine (by kernel_rfl) (fun n => by delta h47b_b2; funext _ _ _ _ _; exact (slices_IndexFunc_impl_Point_impl_Point_1F_impl_MapPolygon_1_l2.eq_2 ..).symm) (fun n => h47b_g2 impl_MapPolygon_1 slices_IndexFunc_impl_Point_impl_Point_1F_impl_MapPolygon_1_l2 n)) allN)

/-! slices.ContainsFunc[[]loop.example/g01297/impl.Point,loop.example/g01297/impl.Point] -/
abbrev h28b_x {α : Type} (F0 : T19 α) : Nat → Ctx α := ctxS false M eqs jt0 [⟨47, S25, F0⟩] []
def h28b_b {α : Type} (F0 : T19 α) (k : Nat) (s : List (Int × Int)) (r0 : Bool → Option α) : Option α :=
  F0 k s fun v =>
  r0 (decide (0 ≤ v))
theorem h28b_g {α : Type} (F0 : T19 α) (n : Nat) : GenF (α := α) Try.prog Try.f28 S26 (h28b_x F0 n) n (h28b_b F0) := by intro _ _; kernel_rfl
theorem h28b_good {α : Type} : ∀ n, GoodFn (α := α) Try.prog 28 (byShape S26.sh (callS S26 slices_ContainsFunc_impl_Point_impl_Point_1F_impl_MapPolygon_1 n)) := good_of Try.func28 (by kernel_rfl) (by kernel_rfl) (by kernel_rfl) eqs_ok (fun n => h28b_g slices_IndexFunc_impl_Point_impl_Point_1F_impl_MapPolygon_1 n) (by delta h28b_b slices_ContainsFunc_impl_Point_impl_Point_1F_impl_MapPolygon_1; rfl) (allC h47b_good allN) allN

/-! slices.Clone[[]loop.example/g01297/impl.Point,loop.example/g01297/impl.Point] -/
abbrev h48_x {α : Type}  : Nat → Ctx α := ctxS true M eqs jt0 [] []
noncomputable def h48_b {α : Type}  (_ : Nat) (s : List (Int × Int)) (r0 : Option α) (r1 : (List (Int × Int)) → Option α) : Option α :=
  bif Nat.beq (List.length s) 0 then
    both
      (
        r0)
      (
        bif decide ((0 + (List.length s)) ≤ big) then
          r1 ([] ++ s)
        else
          none)
  else
  bif decide ((0 + (List.length s)) ≤ big) then
    r1 ([] ++ s)
  else
    none
theorem h48_g {α : Type}  (n : Nat) : GenF (α := α) Try.prog Try.f48 S27 (h48_x n) n (h48_b) := by intro _ _; kernel_rfl
theorem h48_good {α : Type} : ∀ n, GoodFn (α := α) Try.prog 48 (byShape S27.sh (callS S27 slices_Clone_impl_Point_impl_Point n)) := good_of Try.func48 (by kernel_rfl) (by kernel_rfl) (by kernel_rfl) eqs_ok (fun n => h48_g n) (by delta h48_b slices_Clone_impl_Point_impl_Point; rfl) allN allN

/-! cmp.isNaN[int64] -/
abbrev h75_x {α : Type}  : Nat → Ctx α := ctxS false M eqs jt0 [] []
def h75_b {α : Type}  (_ : Nat) (x : Int) (r0 : Bool → Option α) : Option α :=
  r0 (!decide (x = x))
theorem h75_g {α : Type}  (n : Nat) : GenF (α := α) Try.prog Try.f75 S5 (h75_x n) n (h75_b) := by intro _ _; kernel_rfl
theorem h75_good {α : Type} : ∀ n, GoodFn (α := α) Try.prog 75 (byShape S5.sh (callS S5 cmp_isNaN_int64 n)) := good_of Try.func75 (by kernel_rfl) (by kernel_rfl) (by kernel_rfl) eqs_ok (fun n => h75_g n) (by delta h75_b cmp_isNaN_int64; rfl) allN allN

/-! cmp.Compare[int64] -/
abbrev h62_x {α : Type} (F0 : T3 α) : Nat → Ctx α := ctxS false M eqs jt0 [⟨75, S5, F0⟩] []
def h62_b {α : Type} (F0 : T3 α) (k : Nat) (x : Int) (y : Int) (r0 : Int → Option α) : Option α :=
  F0 k x fun v =>
  F0 k y fun v1 =>
  bif v then
    bif v1 then
      r0 0
    else
      r0 (-1)
  else
  bif v1 then
    r0 1
  else
  bif decide (x < y) then
    r0 (-1)
  else
  bif decide (y < x) then
    r0 1
  else
    r0 0
theorem h62_g {α : Type} (F0 : T3 α) (n : Nat) : GenF (α := α) Try.prog Try.f62 S28 (h62_x F0 n) n (h62_b F0) := by intro _ _ _; kernel_rfl
theorem h62_good {α : Type} : ∀ n, GoodFn (α := α) Try.prog 62 (byShape S28.sh (callS S28 cmp_Compare_int64 n)) := good_of Try.func62 (by kernel_rfl) (by kernel_rfl) (by kernel_rfl) eqs_ok (fun n => h62_g cmp_isNaN_int64 n) (by delta h62_b cmp_Compare_int64; rfl) (allC h75_good allN) allN

/-! cmp.Or[int] -/
def h61_t3 : Tpl := ⟨(.any :: (.any :: (.any :: (.int .i64 :: (.any :: (.any :: (.sl 0 :: (.int .i64 :: (.int .i64 :: (anyN 9 [])))))))))), [(0, .rows 0 3 (.int .i64))], [], false⟩
def h61_p3 : PcS := loopS [.int, .int, .int, .rows (.int .i64)] [0]
abbrev h61_x {α : Type} (G3 : T25 α) : Nat → Ctx α := ctxS false M eqs jt0 [] [lpT 3 h61_t3 h61_p3 R0 G3]
def h61_b3 {α : Type} (G3 : T25 α) (k : Nat) (zero : Int) (x : Int) (x1 : Int) (x2 : List Int) (b0 : Int → Int → Int → List Int → Option α) (r0 : Int → Option α) : Option α :=
  bif decide (x1 < x) then
    bif (decide (0 ≤ x1) && decide (x1 < (((List.length x2) : Nat) : Int))) then
      (x2[x1.toNat]?).bind fun e_ =>
      bif (!decide (e_ = zero)) then
        r0 e_
      else
        G3 k zero x (w64 (x1 + 1)) x2 b0 r0
    else
      none
  else
    b0 zero x x1 x2
theorem h61_g3 {α : Type} (G3 : T25 α) (n : Nat) : GenL (α := α) Try.prog Try.f61 S29 (h61_x G3 n) 3 h61_t3 h61_p3 n G3 (h61_b3 G3) := by intro _ _ _ _ _ _; kernel_rfl
def h61_b {α : Type} (G3 : T25 α) (k : Nat) (vals : List Int) (r0 : Int → Option α) : Option α :=
  G3 k 0 (((List.length vals) : Nat) : Int) 0 vals
    (fun zero1 _ _ _ =>
      r0 zero1)
    r0
theorem h61_g {α : Type} (G3 : T25 α) (n : Nat) : GenF (α := α) Try.prog Try.f61 S29 (h61_x G3 n) n (h61_b G3) := by intro _ _; kernel_rfl
theorem h61_good {α : Type} : ∀ n, GoodFn (α := α) Try.prog 61 (byShape S29.sh (callS S29 cmp_Or_int n)) := good_of Try.func61 (by kernel_rfl) (by kernel_rfl) (by kernel_rfl) eqs_ok (fun n => h61_g cmp_Or_int_l3 n) (by delta h61_b cmp_Or_int; rfl) allN (allC (loop_fine (by kernel_rfl) (fun n => by delta h61_b3; funext _ _ _ _ _ _; exact (cmp_Or_int_l3.eq_2 ..).symm) (fun n => h61_g3 cmp_Or_int_l3 n)) allN)

/-! loop.example/g01297/impl.pointOrder -/
abbrev h50_x {α : Type} (F0 : T8 α) (F1 : T26 α) : Nat → Ctx α := ctxS false M eqs jt0 [⟨62, S28, F0⟩, ⟨61, S29, F1⟩] []
def h50_b {α : Type} (F0 : T8 α) (F1 : T26 α) (k : Nat) (a : Int) (a1 : Int) (b_ : Int) (b_1 : Int) (r0 : Int → Option α) : Option α :=
  F0 k a b_ fun v =>
  F0 k a1 b_1 fun v1 =>
  F1 k [v, v1] fun v2 =>
  r0 v2
theorem h50_g {α : Type} (F0 : T8 α) (F1 : T26 α) (n : Nat) : GenF (α := α) Try.prog Try.f50 S9 (h50_x F0 F1 n) n (h50_b F0 F1) := by intro _ _ _ _ _; kernel_rfl
theorem h50_good {α : Type} : ∀ n, GoodFn (α := α) Try.prog 50 (byShape S9.sh (callS S9 impl_pointOrder n)) := good_of Try.func50 (by kernel_rfl) (by kernel_rfl) (by kernel_rfl) eqs_ok (fun n => h50_g cmp_Compare_int64 cmp_Or_int n) (by delta h50_b impl_pointOrder; rfl) (allC h62_good (allC h61_good allN)) allN

/-! slices.SortFunc[[]loop.example/g01297/impl.Point,loop.example/g01297/impl.Point] -/
def h49_lay_ren : Go.Shelf.Ren := ⟨fun | 6 => 49 | 15 => 60 | 14 => 59 | 28 => 73 | 29 => 74 | 20 => 65 | 21 => 66 | 22 => 67 | 23 => 68 | 24 => 69 | 25 => 70 | 26 => 71 | 27 => 72 | 46 => 76 | 47 => 77 | 48 => 78 | 49 => 79 | 50 => 80 | 57 => 81 | n => n, fun | 22 => 26 | 24 => 32 | 25 => 62 | 3 => 3 | 39 => 68 | 0 => 0 | 53 => 82 | 55 => 84 | 4 => 4 | 46 => 75 | 45 => 74 | 50 => 79 | 5 => 5 | 9 => 9 | 66 => 86 | 70 => 90 | 76 => 92 | 77 => 93 | n => n, fun | n => n⟩

theorem h49_lay : Go.Proofs.SlLaysF0.n6 Try.prog h49_lay_ren := {
  mixed := by kernel_rfl,
  f6 := ⟨Try.f49.name, by decide, Try.func49.trans (congrArg some (by kernel_rfl))⟩,
  f14 := ⟨Try.f59.name, by decide, Try.func59.trans (congrArg some (by kernel_rfl))⟩,
  f15 := Try.func60.trans (congrArg some (by kernel_rfl)),
  f20 := ⟨Try.f65.name, by decide, Try.func65.trans (congrArg some (by kernel_rfl))⟩,
  f21 := ⟨Try.f66.name, by decide, Try.func66.trans (congrArg some (by kernel_rfl))⟩,
  f22 := ⟨Try.f67.name, by decide, Try.func67.trans (congrArg some (by kernel_rfl))⟩,
  f23 := ⟨Try.f68.name, by decide, Try.func68.trans (congrArg some (by kernel_rfl))⟩,
  f24 := ⟨Try.f69.name, by decide, Try.func69.trans (congrArg some (by kernel_rfl))⟩,
  f25 := ⟨Try.f70.name, by decide, Try.func70.trans (congrArg some (by kernel_rfl))⟩,
  f26 := ⟨Try.f71.name, by decide, Try.func71.trans (congrArg some (by kernel_rfl))⟩,
  f27 := ⟨Try.f72.name, by decide, Try.func72.trans (congrArg some (by kernel_rfl))⟩,
  f28 := Try.func73.trans (congrArg some (by kernel_rfl)),
  f29 := Try.func74.trans (congrArg some (by kernel_rfl)),
  f46 := ⟨Try.f76.name, by decide, Try.func76.trans (congrArg some (by kernel_rfl))⟩,
  f47 := Try.func77.trans (congrArg some (by kernel_rfl)),
  f48 := Try.func78.trans (congrArg some (by kernel_rfl)),
  f49 := ⟨Try.f79.name, by decide, Try.func79.trans (congrArg some (by kernel_rfl))⟩,
  f50 := ⟨Try.f80.name, by decide, Try.func80.trans (congrArg some (by kernel_rfl))⟩,
  f57 := ⟨Try.f81.name, by decide, Try.func81.trans (congrArg some (by kernel_rfl))⟩,
  t0 := Try.underlying0,
  a0 := Try.isAgg0,
  z0 := Try.sizeOf0,
  v0 := Try.zeroValue0,
  t3 := Try.underlying3,
  a3 := Try.isAgg3,
  z3 := Try.sizeOf3,
  v3 := Try.zeroValue3,
  t4 := Try.underlying4,
  a4 := Try.isAgg4,
  z4 := Try.sizeOf4,
  v4 := Try.zeroValue4,
  t5 := Try.underlying5,
  a5 := Try.isAgg5,
  z5 := Try.sizeOf5,
  v5 := Try.zeroValue5,
  t9 := Try.underlying9,
  a9 := Try.isAgg9,
  z9 := Try.sizeOf9,
  v9 := Try.zeroValue9,
  t22 := Try.underlying26,
  a22 := Try.isAgg26,
  z22 := Try.sizeOf26,
  v22 := Try.zeroValue26,
  t25 := Try.underlying62,
  a25 := Try.isAgg62,
  z25 := Try.sizeOf62,
  v25 := Try.zeroValue62,
  t39 := Try.underlying68,
  a39 := Try.isAgg68,
  z39 := Try.sizeOf68,
  v39 := Try.zeroValue68,
  t45 := Try.underlying74,
  a45 := Try.isAgg74,
  z45 := Try.sizeOf74,
  v45 := Try.zeroValue74,
  t46 := Try.underlying75,
  a46 := Try.isAgg75,
  z46 := Try.sizeOf75,
  v46 := Try.zeroValue75,
  t50 := Try.underlying79,
  a50 := Try.isAgg79,
  z50 := Try.sizeOf79,
  v50 := Try.zeroValue79,
  t53 := Try.underlying82,
  a53 := Try.isAgg82,
  z53 := Try.sizeOf82,
  v53 := Try.zeroValue82,
  t55 := Try.underlying84,
  a55 := Try.isAgg84,
  z55 := Try.sizeOf84,
  v55 := Try.zeroValue84,
  t66 := Try.underlying86,
  a66 := Try.isAgg86,
  z66 := Try.sizeOf86,
  v66 := Try.zeroValue86,
  t70 := Try.underlying90,
  a70 := Try.isAgg90,
  z70 := Try.sizeOf90,
  v70 := Try.zeroValue90,
  t76 := Try.underlying92,
  a76 := Try.isAgg92,
  z76 := Try.sizeOf92,
  v76 := Try.zeroValue92,
  t77 := Try.underlying93,
  a77 := Try.isAgg93,
  z77 := Try.sizeOf93,
  v77 := Try.zeroValue93 }

theorem h49_good {α : Type} : ∀ n, GoodFn (α := α) Try.prog 49 (byShape S30.sh (callS S30 slices_SortFunc_impl_Point_impl_Point_0N_1F_impl_pointOrder n)) := sort_good_nil h49_lay (fun _ _ => rfl)

/-! slices.Compact[[]loop.example/g01297/impl.Point,loop.example/g01297/impl.Point] -/
abbrev h51_x {α : Type}  : Nat → Ctx α := ctxS false M eqs jt0 [] []
def h51_b {α : Type}  (_ : Nat) (r0 : Option α) : Option α :=
  r0
theorem h51_g {α : Type}  (n : Nat) : GenF (α := α) Try.prog Try.f51 S31 (h51_x n) n (h51_b) := by intro _; kernel_rfl
theorem h51_good {α : Type} : ∀ n, GoodFn (α := α) Try.prog 51 (byShape S31.sh (callS S31 slices_Compact_impl_Point_impl_Point_0N n)) := good_of Try.func51 (by kernel_rfl) (by kernel_rfl) (by kernel_rfl) eqs_ok (fun n => h51_g n) (by delta h51_b slices_Compact_impl_Point_impl_Point_0N; rfl) allN allN

/-! loop.example/g01297/impl.chain -/
abbrev h52_x {α : Type}  : Nat → Ctx α := ctxS false M eqs jt0 [] []
def h52_b {α : Type}  (_ : Nat) (r0 : (List (Int × Int)) → Option α) : Option α :=
  r0 []
theorem h52_g {α : Type}  (n : Nat) : GenF (α := α) Try.prog Try.f52 S32 (h52_x n) n (h52_b) := by intro _; kernel_rfl
theorem h52_good {α : Type} : ∀ n, GoodFn (α := α) Try.prog 52 (byShape S32.sh (callS S32 impl_chain_0N n)) := good_of Try.func52 (by kernel_rfl) (by kernel_rfl) (by kernel_rfl) eqs_ok (fun n => h52_g n) (by delta h52_b impl_chain_0N; rfl) allN allN

/-! slices.Reverse[[]loop.example/g01297/impl.Point,loop.example/g01297/impl.Point] -/
abbrev h53_x {α : Type}  : Nat → Ctx α := ctxS false M eqs jt0 [] []
def h53_b {α : Type}  (_ : Nat) (r0 : Option α) : Option α :=
  r0
theorem h53_g {α : Type}  (n : Nat) : GenF (α := α) Try.prog Try.f53 S33 (h53_x n) n (h53_b) := by intro _; kernel_rfl
theorem h53_good {α : Type} : ∀ n, GoodFn (α := α) Try.prog 53 (byShape S33.sh (callS S33 slices_Reverse_impl_Point_impl_Point_0N n)) := good_of Try.func53 (by kernel_rfl) (by kernel_rfl) (by kernel_rfl) eqs_ok (fun n => h53_g n) (by delta h53_b slices_Reverse_impl_Point_impl_Point_0N; rfl) allN allN

/-! slices.Grow[[]loop.example/g01297/impl.Point,loop.example/g01297/impl.Point] -/
abbrev h63_x {α : Type}  : Nat → Ctx α := ctxS false M eqs jt0 [] []
def h63_b {α : Type}  (_ : Nat) (n_ : Int) (r0 : (List (Int × Int)) → Option α) (r1 : Option α) : Option α :=
  bif decide (n_ < 0) then
    none
  else
  bif decide (0 < (w64 (n_ - 0))) then
    bif (decide (1 ≤ (w64 (n_ - 0))) && decide ((w64 (n_ - 0)) ≤ (big : Int))) then
      bif (true && decide (0 ≤ (((List.length (List.replicate ((w64 (n_ - 0)).toNat) (0, 0))) : Nat) : Int))) then
        r0 (List.take 0 (List.replicate ((w64 (n_ - 0)).toNat) (0, 0)))
      else
        none
    else
      none
  else
    r1
theorem h63_g {α : Type}  (n : Nat) : GenF (α := α) Try.prog Try.f63 S34 (h63_x n) n (h63_b) := by intro _ _; kernel_rfl
theorem h63_good {α : Type} : ∀ n, GoodFn (α := α) Try.prog 63 (byShape S34.sh (callS S34 slices_Grow_impl_Point_impl_Point_0N n)) := good_of Try.func63 (by kernel_rfl) (by kernel_rfl) (by kernel_rfl) eqs_ok (fun n => h63_g n) (by delta h63_b slices_Grow_impl_Point_impl_Point_0N; rfl) allN allN

/-! slices.Concat[[]loop.example/g01297/impl.Point,loop.example/g01297/impl.Point] -/
abbrev h54_x {α : Type} (F0 : T27 α) : Nat → Ctx α := ctxS false M eqs jt0 [⟨63, S34, F0⟩] []
def h54_b {α : Type} (F0 : T27 α) (k : Nat) (slices : List (Int × Int)) (slices1 : List (Int × Int)) (r0 : (List (Int × Int)) → Option α) : Option α :=
  bif decide ((w64 (0 + (((List.length slices) : Nat) : Int))) < 0) then
    none
  else
  bif decide ((w64 ((w64 (0 + (((List.length slices) : Nat) : Int))) + (((List.length slices1) : Nat) : Int))) < 0) then
    none
  else
    F0 k (w64 ((w64 (0 + (((List.length slices) : Nat) : Int))) + (((List.length slices1) : Nat) : Int)))
      (fun v =>
        bif decide (((List.length v) + (List.length slices)) ≤ big) then
          bif decide (((List.length (v ++ slices)) + (List.length slices1)) ≤ big) then
            r0 ((v ++ slices) ++ slices1)
          else
            none
        else
          none)
      (
        bif decide ((List.length slices) ≤ big) then
          bif decide (((List.length slices) + (List.length slices1)) ≤ big) then
            r0 (slices ++ slices1)
          else
            none
        else
          none)
theorem h54_g {α : Type} (F0 : T27 α) (n : Nat) : GenF (α := α) Try.prog Try.f54 S35 (h54_x F0 n) n (h54_b F0) := by intro _ _ _; kernel_rfl
theorem h54_good {α : Type} : ∀ n, GoodFn (α := α) Try.prog 54 (byShape S35.sh (callS S35 slices_Concat_impl_Point_impl_Point_0M2 n)) := good_of Try.func54 (by kernel_rfl) (by kernel_rfl) (by kernel_rfl) eqs_ok (fun n => h54_g slices_Grow_impl_Point_impl_Point_0N n) (by delta h54_b slices_Concat_impl_Point_impl_Point_0M2; rfl) (allC h63_good allN) allN

/-! slices.SortFunc[[]loop.example/g01297/impl.Point,loop.example/g01297/impl.Point] -/
theorem h49a_good {α : Type} : ∀ n, GoodFn (α := α) Try.prog 49 (byShape S36.sh (callS S36 slices_SortFunc_impl_Point_impl_Point_1F_impl_pointOrder n)) := sort_good (t := .pt) h49_lay rfl Try.isAgg32 Try.sizeOf32 (h50_good (α := Int)) (by intro _ _ _; kernel_rfl) (fun _ _ _ => rfl)

/-! slices.Compact[[]loop.example/g01297/impl.Point,loop.example/g01297/impl.Point] -/
def h51a_t9 : Tpl := ⟨(.sl 0 :: (.any :: (.any :: (.int .i64 :: (.sub 0 :: (.int .i64 :: (anyN 55 []))))))), [(0, .rows 1 32 .pt)], [], false⟩
def h51a_p9 : PcS := loopS [.int, .nat, .nat, .int, .rows .pt] [2]
def h51a_t4 : Tpl := ⟨(.sl 0 :: (.any :: (.any :: (.int .i64 :: (anyN 57 []))))), [(0, .rows 1 32 .pt)], [], false⟩
def h51a_p4 : PcS := loopS [.int, .rows .pt] [0]
abbrev h51a_x {α : Type} (G9 : T28 α) (G4 : T29 α) : Nat → Ctx α := ctxS false M eqs jt0 [] [lpT 9 h51a_t9 h51a_p9 R11 G9, lpT 4 h51a_t4 h51a_p4 R11 G4]
def h51a_b9 {α : Type} (G9 : T28 α) (k : Nat) (k_1 : Int) (s2_ : Nat) (s2_1 : Nat) (k2_ : Int) (s2 : List (Int × Int)) (b2 : Int → Nat → Nat → Int → (List (Int × Int)) → Option α) (r0 : (List (Int × Int)) → Option α) : Option α :=
  bif decide (k2_ < ((s2_1 : Nat) : Int)) then
    bif (decide (0 ≤ k2_) && decide (k2_ < ((s2_1 : Nat) : Int))) then
      (s2[(moved s2_ k2_.toNat 1)]?).bind fun e_2 =>
      bif (decide (0 ≤ (w64 (k2_ - 1))) && decide ((w64 (k2_ - 1)) < ((s2_1 : Nat) : Int))) then
        (s2[(moved s2_ ((w64 (k2_ - 1)).toNat) 1)]?).bind fun e_3 =>
        bif (!(decide (e_2.1 = e_3.1) && decide (e_2.2 = e_3.2))) then
          bif (decide (0 ≤ k2_) && decide (k2_ < ((s2_1 : Nat) : Int))) then
            (s2[(moved s2_ k2_.toNat 1)]?).bind fun e_4 =>
            bif (decide (0 ≤ k_1) && decide (k_1 < (((List.length s2) : Nat) : Int))) then
              (s2[k_1.toNat]?).bind fun _ =>
              G9 k (w64 (k_1 + 1)) s2_ s2_1 (w64 (k2_ + 1)) (List.set s2 k_1.toNat (e_4.1, e_4.2)) b2 r0
            else
              none
          else
            none
        else
          G9 k k_1 s2_ s2_1 (w64 (k2_ + 1)) s2 b2 r0
      else
        none
    else
      none
  else
    b2 k_1 s2_ s2_1 k2_ s2
theorem h51a_g9 {α : Type} (G9 : T28 α) (G4 : T29 α) (n : Nat) : GenL (α := α) Try.prog Try.f51 S37 (h51a_x G9 G4 n) 9 h51a_t9 h51a_p9 n G9 (h51a_b9 G9) := by intro _ _ _ _ _ _ _ _; kernel_rfl
def h51a_b4 {α : Type} (G9 : T28 α) (G4 : T29 α) (k : Nat) (k_ : Int) (s1 : List (Int × Int)) (b0 : Int → (List (Int × Int)) → Option α) (r0 : (List (Int × Int)) → Option α) : Option α :=
  bif decide (k_ < (((List.length s1) : Nat) : Int)) then
    bif (decide (0 ≤ k_) && decide (k_ < (((List.length s1) : Nat) : Int))) then
      (s1[k_.toNat]?).bind fun e_ =>
      bif (decide (0 ≤ (w64 (k_ - 1))) && decide ((w64 (k_ - 1)) < (((List.length s1) : Nat) : Int))) then
        (s1[(w64 (k_ - 1)).toNat]?).bind fun e_1 =>
        bif (decide (e_.1 = e_1.1) && decide (e_.2 = e_1.2)) then
          bif (decide (0 ≤ k_) && decide (k_ ≤ (((List.length s1) : Nat) : Int))) then
            G9 k k_ k_.toNat ((List.length s1) - k_.toNat) 1 s1
              (fun k_2 _ _ _ s3 =>
                bif (decide (0 ≤ k_2) && decide (k_2 ≤ (((List.length s3) : Nat) : Int))) then
                  bif (decide (0 ≤ k_2) && decide (k_2 ≤ (((List.length (((List.take k_2.toNat s3) ++ (List.replicate ((List.length s3) - k_2.toNat) (0, 0))) ++ (List.drop (k_2.toNat + ((List.length s3) - k_2.toNat)) s3))) : Nat) : Int))) then
                    r0 (List.take (k_2.toNat - 0) (((List.take k_2.toNat s3) ++ (List.replicate ((List.length s3) - k_2.toNat) (0, 0))) ++ (List.drop (k_2.toNat + ((List.length s3) - k_2.toNat)) s3)))
                  else
                    none
                else
                  none)
              r0
          else
            none
        else
          G4 k (w64 (k_ + 1)) s1 b0 r0
      else
        none
    else
      none
  else
    b0 k_ s1
theorem h51a_g4 {α : Type} (G9 : T28 α) (G4 : T29 α) (n : Nat) : GenL (α := α) Try.prog Try.f51 S37 (h51a_x G9 G4 n) 4 h51a_t4 h51a_p4 n G4 (h51a_b4 G9 G4) := by intro _ _ _ _ _; kernel_rfl
def h51a_b {α : Type} (G4 : T29 α) (k : Nat) (s : List (Int × Int)) (r0 : (List (Int × Int)) → Option α) : Option α :=
  bif decide ((((List.length s) : Nat) : Int) < 2) then
    r0 s
  else
    G4 k 1 s
      (fun _ s4 =>
        r0 s4)
      r0
theorem h51a_g {α : Type} (G9 : T28 α) (G4 : T29 α) (n : Nat) : GenF (α := α) Try.prog Try.f51 S37 (h51a_x G9 G4 n) n (h51a_b G4) := by intro _ _; kernel_rfl
theorem h51a_good {α : Type} : ∀ n, GoodFn (α := α) Try.prog 51 (byShape S37.sh (callS S37 slices_Compact_impl_Point_impl_Point n)) := good_of Try.func51 (by kernel_rfl) (by kernel_rfl) (by kernel_rfl) eqs_ok (fun n => h51a_g slices_Compact_impl_Point_impl_Point_l9 slices_Compact_impl_Point_impl_Point_l4 n) (by delta h51a_b slices_Compact_impl_Point_impl_Point; rfl) allN (allC (loop_fine (by kernel_rfl) (fun n => by delta h51a_b9; funext _ _ _ _ _ _ _; exact (slices_Compact_impl_Point_impl_Point_l9.eq_2 ..).symm) (fun n => h51a_g9 slices_Compact_impl_Point_impl_Point_l9 slices_Compact_impl_Point_impl_Point_l4 n)) (allC (loop_fine (by kernel_rfl) (fun n => by delta h51a_b4; funext _ _ _ _; exact (slices_Compact_impl_Point_impl_Point_l4.eq_2 ..).symm) (fun n => h51a_g4 slices_Compact_impl_Point_impl_Point_l9 slices_Compact_impl_Point_impl_Point_l4 n)) allN))

/-! loop.example/g01297/impl.chain -/
def h52a_t5 : Tpl := ⟨(.any :: (.any :: (.any :: (.sl 384 :: (.any :: (.ptr 320 0 0 :: (.any :: (.sl 0 :: (.int .i64 :: (.int .i64 :: (anyN 39 []))))))))))), [(384, .rows 2 32 .pt), (320, .ints 2 32 .i64 2), (0, .rows 0 32 .pt)], [(3, 384, 32, .pt)], false⟩
def h52a_p5 : PcS := loopS [.int, .int, .rows .pt, .int, .int, .rows .pt] [2]
def h52a_t3 : Tpl := ⟨(.any :: (.any :: (.any :: (.sl 384 :: (.any :: (.any :: (.any :: (.sl 0 :: (.int .i64 :: (.int .i64 :: (anyN 39 []))))))))))), [(384, .rows 2 32 .pt), (0, .rows 0 32 .pt)], [], false⟩
def h52a_p3 : PcS := loopS [.int, .int, .rows .pt, .rows .pt] [0]
abbrev h52a_x {α : Type} (F0 : T7 α) (G5 : T30 α) (G3 : T31 α) : Nat → Ctx α := ctxS false M eqs jt0 [⟨57, S10, F0⟩] [lpT 5 h52a_t5 h52a_p5 R3 G5, lpT 3 h52a_t3 h52a_p3 R3 G3]
def h52a_b5 {α : Type} (F0 : T7 α) (G5 : T30 α) (k : Nat) (x3 : Int) (x4 : Int) (out1 : List (Int × Int)) (c : Int) (c1 : Int) (x5 : List (Int × Int)) (b2 : Int → Int → (List (Int × Int)) → Int → Int → (List (Int × Int)) → Option α) (r0 : (List (Int × Int)) → Option α) : Option α :=
  bif decide (1 < (((List.length out1) : Nat) : Int)) then
    bif (decide (0 ≤ (w64 ((((List.length out1) : Nat) : Int) - 2))) && decide ((w64 ((((List.length out1) : Nat) : Int) - 2)) < (((List.length out1) : Nat) : Int))) then
      (out1[(w64 ((((List.length out1) : Nat) : Int) - 2)).toNat]?).bind fun e_1 =>
      bif (decide (0 ≤ (w64 ((((List.length out1) : Nat) : Int) - 1))) && decide ((w64 ((((List.length out1) : Nat) : Int) - 1)) < (((List.length out1) : Nat) : Int))) then
        (out1[(w64 ((((List.length out1) : Nat) : Int) - 1)).toNat]?).bind fun e_2 =>
        F0 k e_1.1 e_1.2 e_2.1 e_2.2 c c1 fun v =>
        bif decide (v ≤ 0) then
          bif (decide (0 ≤ (w64 ((((List.length out1) : Nat) : Int) - 1))) && decide ((w64 ((((List.length out1) : Nat) : Int) - 1)) ≤ (((List.length out1) : Nat) : Int))) then
            G5 k x3 x4 (List.take ((w64 ((((List.length out1) : Nat) : Int) - 1)).toNat - 0) out1) c c1 x5 b2 r0
          else
            none
        else
          b2 x3 x4 out1 c c1 x5
      else
        none
    else
      none
  else
    b2 x3 x4 out1 c c1 x5
theorem h52a_g5 {α : Type} (F0 : T7 α) (G5 : T30 α) (G3 : T31 α) (n : Nat) : GenL (α := α) Try.prog Try.f52 S16 (h52a_x F0 G5 G3 n) 5 h52a_t5 h52a_p5 n G5 (h52a_b5 F0 G5) := by intro _ _ _ _ _ _ _ _; kernel_rfl
def h52a_b3 {α : Type} (G5 : T30 α) (G3 : T31 α) (k : Nat) (x : Int) (x1 : Int) (out : List (Int × Int)) (x2 : List (Int × Int)) (b0 : Int → Int → (List (Int × Int)) → (List (Int × Int)) → Option α) (r0 : (List (Int × Int)) → Option α) : Option α :=
  bif decide (x1 < x) then
    bif (decide (0 ≤ x1) && decide (x1 < (((List.length x2) : Nat) : Int))) then
      (x2[x1.toNat]?).bind fun e_ =>
      G5 k x x1 out e_.1 e_.2 x2
        (fun x6 x7 out2 c2 c3 x8 =>
          bif decide (((List.length out2) + 1) ≤ big) then
            G3 k x6 (w64 (x7 + 1)) (out2 ++ [(c2, c3)]) x8 b0 r0
          else
            none)
        r0
    else
      none
  else
    b0 x x1 out x2
theorem h52a_g3 {α : Type} (F0 : T7 α) (G5 : T30 α) (G3 : T31 α) (n : Nat) : GenL (α := α) Try.prog Try.f52 S16 (h52a_x F0 G5 G3 n) 3 h52a_t3 h52a_p3 n G3 (h52a_b3 G5 G3) := by intro _ _ _ _ _ _; kernel_rfl
def h52a_b {α : Type} (G3 : T31 α) (k : Nat) (list : List (Int × Int)) (r0 : (List (Int × Int)) → Option α) : Option α :=
  G3 k (((List.length list) : Nat) : Int) 0 [] list
    (fun _ _ out3 _ =>
      bif (decide (0 ≤ (max (w64 ((((List.length out3) : Nat) : Int) - 1)) 0)) && decide ((max (w64 ((((List.length out3) : Nat) : Int) - 1)) 0) ≤ (((List.length out3) : Nat) : Int))) then
        r0 (List.take ((max (w64 ((((List.length out3) : Nat) : Int) - 1)) 0).toNat - 0) out3)
      else
        none)
    r0
theorem h52a_g {α : Type} (F0 : T7 α) (G5 : T30 α) (G3 : T31 α) (n : Nat) : GenF (α := α) Try.prog Try.f52 S16 (h52a_x F0 G5 G3 n) n (h52a_b G3) := by intro _ _; kernel_rfl
theorem h52a_good {α : Type} : ∀ n, GoodFn (α := α) Try.prog 52 (byShape S16.sh (callS S16 impl_chain n)) := good_of Try.func52 (by kernel_rfl) (by kernel_rfl) (by kernel_rfl) eqs_ok (fun n => h52a_g impl_turn impl_chain_l5 impl_chain_l3 n) (by delta h52a_b impl_chain; rfl) (allC h57_good allN) (allC (loop_fine (by kernel_rfl) (fun n => by delta h52a_b5; funext _ _ _ _ _ _ _ _; exact (impl_chain_l5.eq_2 ..).symm) (fun n => h52a_g5 impl_turn impl_chain_l5 impl_chain_l3 n)) (allC (loop_fine (by kernel_rfl) (fun n => by delta h52a_b3; funext _ _ _ _ _ _; exact (impl_chain_l3.eq_2 ..).symm) (fun n => h52a_g3 impl_turn impl_chain_l5 impl_chain_l3 n)) allN))

/-! slices.Reverse[[]loop.example/g01297/impl.Point,loop.example/g01297/impl.Point] -/
def h53a_t1 : Tpl := ⟨(.sl 0 :: (.any :: (.int .i64 :: (.int .i64 :: (anyN 24 []))))), [(0, .rows 1 32 .pt)], [], false⟩
def h53a_p1 : PcS := loopS [.int, .int, .rows .pt] [0]
abbrev h53a_x {α : Type} (G1 : T32 α) : Nat → Ctx α := ctxS false M eqs jt0 [] [lpT 1 h53a_t1 h53a_p1 R10 G1]
def h53a_b1 {α : Type} (G1 : T32 α) (k : Nat) (i : Int) (j : Int) (s1 : List (Int × Int)) (b0 : Int → Int → (List (Int × Int)) → Option α) (r0 : (List (Int × Int)) → Option α) : Option α :=
  bif decide (i < j) then
    bif (decide (0 ≤ j) && decide (j < (((List.length s1) : Nat) : Int))) then
      (s1[j.toNat]?).bind fun e_ =>
      bif (decide (0 ≤ i) && decide (i < (((List.length s1) : Nat) : Int))) then
        (s1[i.toNat]?).bind fun e_1 =>
        bif (decide (0 ≤ i) && decide (i < (((List.length s1) : Nat) : Int))) then
          (s1[i.toNat]?).bind fun _ =>
          bif (decide (0 ≤ j) && decide (j < (((List.length (List.set s1 i.toNat (e_.1, e_.2))) : Nat) : Int))) then
            ((List.set s1 i.toNat (e_.1, e_.2))[j.toNat]?).bind fun _ =>
            G1 k (w64 (i + 1)) (w64 (j - 1)) (List.set (List.set s1 i.toNat (e_.1, e_.2)) j.toNat (e_1.1, e_1.2)) b0 r0
          else
            none
        else
          none
      else
        none
    else
      none
  else
    b0 i j s1
theorem h53a_g1 {α : Type} (G1 : T32 α) (n : Nat) : GenL (α := α) Try.prog Try.f53 S38 (h53a_x G1 n) 1 h53a_t1 h53a_p1 n G1 (h53a_b1 G1) := by intro _ _ _ _ _ _; kernel_rfl
def h53a_b {α : Type} (G1 : T32 α) (k : Nat) (s : List (Int × Int)) (r0 : (List (Int × Int)) → Option α) : Option α :=
  G1 k 0 (w64 ((((List.length s) : Nat) : Int) - 1)) s
    (fun _ _ s2 =>
      r0 s2)
    r0
theorem h53a_g {α : Type} (G1 : T32 α) (n : Nat) : GenF (α := α) Try.prog Try.f53 S38 (h53a_x G1 n) n (h53a_b G1) := by intro _ _; kernel_rfl
theorem h53a_good {α : Type} : ∀ n, GoodFn (α := α) Try.prog 53 (byShape S38.sh (callS S38 slices_Reverse_impl_Point_impl_Point n)) := good_of Try.func53 (by kernel_rfl) (by kernel_rfl) (by kernel_rfl) eqs_ok (fun n => h53a_g slices_Reverse_impl_Point_impl_Point_l1 n) (by delta h53a_b slices_Reverse_impl_Point_impl_Point; rfl) allN (allC (loop_fine (by kernel_rfl) (fun n => by delta h53a_b1; funext _ _ _ _ _; exact (slices_Reverse_impl_Point_impl_Point_l1.eq_2 ..).symm) (fun n => h53a_g1 slices_Reverse_impl_Point_impl_Point_l1 n)) allN)

/-! loop.example/g01297/impl.hull -/
abbrev h31_x {α : Type} (F0 : T33 α) (F1 : T34 α) (F2 : T34 α) (F3 : T35 α) (F4 : T34 α) (F5 : T36 α) (F6 : T14 α) (F7 : T16 α) (F8 : T16 α) (F9 : T16 α) (F10 : T16 α) : Nat → Ctx α := ctxS false M eqs jt0 [⟨48, S27, F0⟩, ⟨49, S30, F1⟩, ⟨51, S31, F2⟩, ⟨52, S32, F3⟩, ⟨53, S33, F4⟩, ⟨54, S35, F5⟩, ⟨23, S12, F6⟩, ⟨49, S36, F7⟩, ⟨51, S37, F8⟩, ⟨52, S16, F9⟩, ⟨53, S38, F10⟩] []
def h31_b {α : Type} (F0 : T33 α) (F1 : T34 α) (F2 : T34 α) (F3 : T35 α) (F4 : T34 α) (F5 : T36 α) (F6 : T14 α) (F7 : T16 α) (F8 : T16 α) (F9 : T16 α) (F10 : T16 α) (k : Nat) (list : List (Int × Int)) (r0 : Int → Option α) (r1 : (List (Int × Int)) → Int → Option α) : Option α :=
  F0 k list
    (
      F1 k <|
      F2 k <|
      F3 k fun v =>
      F4 k <|
      F3 k fun v1 =>
      F5 k v v1 fun v2 =>
      bif decide ((((List.length v2) : Nat) : Int) < 3) then
        r0 5
      else
        F6 k v2 fun v3 =>
        bif (!v3) then
          r0 3
        else
          r1 v2 0)
    (fun v4 =>
      F7 k v4 fun v5 =>
      F8 k v5 fun v6 =>
      F9 k v6 fun v7 =>
      F10 k v6 fun v8 =>
      F9 k v8 fun v9 =>
      F5 k v7 v9 fun v10 =>
      bif decide ((((List.length v10) : Nat) : Int) < 3) then
        r0 5
      else
        F6 k v10 fun v11 =>
        bif (!v11) then
          r0 3
        else
          r1 v10 0)
theorem h31_g {α : Type} (F0 : T33 α) (F1 : T34 α) (F2 : T34 α) (F3 : T35 α) (F4 : T34 α) (F5 : T36 α) (F6 : T14 α) (F7 : T16 α) (F8 : T16 α) (F9 : T16 α) (F10 : T16 α) (n : Nat) : GenF (α := α) Try.prog Try.f31 S39 (h31_x F0 F1 F2 F3 F4 F5 F6 F7 F8 F9 F10 n) n (h31_b F0 F1 F2 F3 F4 F5 F6 F7 F8 F9 F10) := by intro _ _; kernel_rfl
theorem h31_good {α : Type} : ∀ n, GoodFn (α := α) Try.prog 31 (byShape S39.sh (callS S39 impl_hull n)) := good_of Try.func31 (by kernel_rfl) (by kernel_rfl) (by kernel_rfl) eqs_ok (fun n => h31_g slices_Clone_impl_Point_impl_Point slices_SortFunc_impl_Point_impl_Point_0N_1F_impl_pointOrder slices_Compact_impl_Point_impl_Point_0N impl_chain_0N slices_Reverse_impl_Point_impl_Point_0N slices_Concat_impl_Point_impl_Point_0M2 impl_IsPolygon slices_SortFunc_impl_Point_impl_Point_1F_impl_pointOrder slices_Compact_impl_Point_impl_Point impl_chain slices_Reverse_impl_Point_impl_Point n) (by delta h31_b impl_hull; rfl) (allC h48_good (allC h49_good (allC h51_good (allC h52_good (allC h53_good (allC h54_good (allC h23_good (allC h49a_good (allC h51a_good (allC h52a_good (allC h53a_good allN))))))))))) allN

/-! loop.example/g01297/impl.MapPolygon -/
def h9_t7 : Tpl := ⟨(.any :: (.any :: (.any :: (.ptr 192 0 0 :: (.any :: (.ptr 320 0 0 :: (.any :: (.any :: (.sl 1856 :: (anyN 21 (.sl 64 :: (.int .i64 :: (.int .i64 :: (anyN 18 [])))))))))))))), [(192, .ints 2 29 .i64 4), (320, .ints 2 32 .i64 2), (1856, .rows 2 32 .pt), (64, .rows 0 32 .pt)], [], false⟩
def h9_p7 : PcS := loopS [.int, .int, .int, .int, .int, .int, .int, .int, .rows .pt, .rows .pt] [1]
abbrev h9_x {α : Type} (F0 : T10 α) (F1 : T14 α) (F2 : T6 α) (F3 : T10 α) (F4 : T15 α) (F5 : T4 α) (F6 : T14 α) (F7 : T37 α) (G7 : T38 α) : Nat → Ctx α := ctxS false M eqs jt0 [⟨22, S6, F0⟩, ⟨23, S12, F1⟩, ⟨24, S7, F2⟩, ⟨25, S6, F3⟩, ⟨26, S14, F4⟩, ⟨27, S8, F5⟩, ⟨28, S26, F6⟩, ⟨31, S39, F7⟩] [lpT 7 h9_t7 h9_p7 R5 G7]
def h9_b7 {α : Type} (F4 : T15 α) (F5 : T4 α) (G7 : T38 α) (k : Nat) (x : Int) (x1 : Int) (m4 : Int) (m5 : Int) (m6 : Int) (m7 : Int) (b_2 : Int) (b_3 : Int) (out : List (Int × Int)) (x2 : List (Int × Int)) (b1 : Int → Int → Int → Int → Int → Int → Int → Int → (List (Int × Int)) → (List (Int × Int)) → Option α) (r0 : Int → Option α) (r1 : (List (Int × Int)) → Int → Option α) : Option α :=
  bif decide (x1 < x) then
    bif (decide (0 ≤ x1) && decide (x1 < (((List.length x2) : Nat) : Int))) then
      (x2[x1.toNat]?).bind fun e_ =>
      F4 k m4 m5 m6 m7 e_.1 e_.2 fun v4 v5 =>
      F5 k v4 v5 b_2 b_3 1 fun v6 v7 =>
      bif decide (((List.length out) + 1) ≤ big) then
        G7 k x (w64 (x1 + 1)) m4 m5 m6 m7 b_2 b_3 (out ++ [(v6, v7)]) x2 b1 r0 r1
      else
        none
    else
      none
  else
    b1 x x1 m4 m5 m6 m7 b_2 b_3 out x2
theorem h9_g7 {α : Type} (F0 : T10 α) (F1 : T14 α) (F2 : T6 α) (F3 : T10 α) (F4 : T15 α) (F5 : T4 α) (F6 : T14 α) (F7 : T37 α) (G7 : T38 α) (n : Nat) : GenL (α := α) Try.prog Try.f9 S17 (h9_x F0 F1 F2 F3 F4 F5 F6 F7 G7 n) 7 h9_t7 h9_p7 n G7 (h9_b7 F4 F5 G7) := by intro _ _ _ _ _ _ _ _ _ _ _ _; kernel_rfl
def h9_b {α : Type} (F0 : T10 α) (F1 : T14 α) (F2 : T6 α) (F3 : T10 α) (F6 : T14 α) (F7 : T37 α) (G7 : T38 α) (k : Nat) (m : Int) (m1 : Int) (m2 : Int) (m3 : Int) (list : List (Int × Int)) (b_ : Int) (b_1 : Int) (r0 : Int → Option α) (r1 : (List (Int × Int)) → Int → Option α) : Option α :=
  F0 k m m1 m2 m3 fun v =>
  bif (!v) then
    r0 1
  else
    F1 k list fun v1 =>
    bif (!v1) then
      r0 1
    else
      F2 k b_ b_1 fun v2 =>
      bif (!v2) then
        r0 1
      else
        F3 k m m1 m2 m3 fun v3 =>
        bif (!v3) then
          r0 5
        else
          G7 k (((List.length list) : Nat) : Int) 0 m m1 m2 m3 b_ b_1 [] list
            (fun _ _ _ _ _ _ _ _ out1 _ =>
              F6 k out1 fun v8 =>
              bif v8 then
                r0 3
              else
                F7 k out1
                  (fun v9 =>
                    r0 v9)
                  (fun v10 v11 =>
                    r1 v10 v11))
            r0 r1
theorem h9_g {α : Type} (F0 : T10 α) (F1 : T14 α) (F2 : T6 α) (F3 : T10 α) (F4 : T15 α) (F5 : T4 α) (F6 : T14 α) (F7 : T37 α) (G7 : T38 α) (n : Nat) : GenF (α := α) Try.prog Try.f9 S17 (h9_x F0 F1 F2 F3 F4 F5 F6 F7 G7 n) n (h9_b F0 F1 F2 F3 F6 F7 G7) := by intro _ _ _ _ _ _ _ _; kernel_rfl
theorem h9_good {α : Type} : ∀ n, GoodFn (α := α) Try.prog 9 (byShape S17.sh (callS S17 impl_MapPolygon n)) := good_of Try.func9 (by kernel_rfl) (by kernel_rfl) (by kernel_rfl) eqs_ok (fun n => h9_g impl_IsMatrix impl_IsPolygon impl_IsPoint impl_Matrix_unimodular impl_Matrix_apply impl_Point_plus slices_ContainsFunc_impl_Point_impl_Point_1F_impl_MapPolygon_1 impl_hull impl_MapPolygon_l7 n) (by delta h9_b impl_MapPolygon; rfl) (allC h22_good (allC h23_good (allC h24_good (allC h25_good (allC h26_good (allC h27_good (allC h28b_good (allC h31_good allN)))))))) (allC (loop_fine (by kernel_rfl) (fun n => by delta h9_b7; funext _ _ _ _ _ _ _ _ _ _ _ _ _; exact (impl_MapPolygon_l7.eq_2 ..).symm) (fun n => h9_g7 impl_IsMatrix impl_IsPolygon impl_IsPoint impl_Matrix_unimodular impl_Matrix_apply impl_Point_plus slices_ContainsFunc_impl_Point_impl_Point_1F_impl_MapPolygon_1 impl_hull impl_MapPolygon_l7 n)) allN)

/-! loop.example/g01297/laws.eqPointS -/
abbrev h10_x {α : Type}  : Nat → Ctx α := ctxS false M eqs jt0 [] []
def h10_b {α : Type}  (_ : Nat) (r0 : Bool → Option α) : Option α :=
  r0 true
theorem h10_g {α : Type}  (n : Nat) : GenF (α := α) Try.prog Try.f10 S40 (h10_x n) n (h10_b) := by intro _; kernel_rfl
theorem h10_good {α : Type} : ∀ n, GoodFn (α := α) Try.prog 10 (byShape S40.sh (callS S40 laws_eqPointS_0N_1N n)) := good_of Try.func10 (by kernel_rfl) (by kernel_rfl) (by kernel_rfl) eqs_ok (fun n => h10_g n) (by delta h10_b laws_eqPointS_0N_1N; rfl) allN allN

/-! loop.example/g01297/laws.eqPoint -/
abbrev h32_x {α : Type}  : Nat → Ctx α := ctxS false M eqs jt0 [] []
def h32_b {α : Type}  (_ : Nat) (a : Int) (a1 : Int) (b_ : Int) (b_1 : Int) (r0 : Bool → Option α) : Option α :=
  bif (!decide (a = b_)) then
    r0 false
  else
  bif (!decide (a1 = b_1)) then
    r0 false
  else
    r0 true
theorem h32_g {α : Type}  (n : Nat) : GenF (α := α) Try.prog Try.f32 S15 (h32_x n) n (h32_b) := by intro _ _ _ _ _; kernel_rfl
theorem h32_good {α : Type} : ∀ n, GoodFn (α := α) Try.prog 32 (byShape S15.sh (callS S15 laws_eqPoint n)) := good_of Try.func32 (by kernel_rfl) (by kernel_rfl) (by kernel_rfl) eqs_ok (fun n => h32_g n) (by delta h32_b laws_eqPoint; rfl) allN allN

/-! loop.example/g01297/laws.eqPointS -/
def h10a_t4 : Tpl := ⟨(.sl 0 :: (.sl 64 :: (.any :: (.any :: (.any :: (.int .i64 :: (anyN 21 []))))))), [(0, .rows 0 32 .pt), (64, .rows 0 32 .pt)], [], false⟩
def h10a_p4 : PcS := loopS [.int, .rows .pt, .rows .pt] [0]
abbrev h10a_x {α : Type} (F0 : T10 α) (G4 : T39 α) : Nat → Ctx α := ctxS false M eqs jt0 [⟨32, S15, F0⟩] [lpT 4 h10a_t4 h10a_p4 R4 G4]
def h10a_b4 {α : Type} (F0 : T10 α) (G4 : T39 α) (k : Nat) (i : Int) (a1 : List (Int × Int)) (b_1 : List (Int × Int)) (b0 : Int → (List (Int × Int)) → (List (Int × Int)) → Option α) (r0 : Bool → Option α) : Option α :=
  bif decide (i < (((List.length a1) : Nat) : Int)) then
    bif (decide (0 ≤ i) && decide (i < (((List.length a1) : Nat) : Int))) then
      (a1[i.toNat]?).bind fun e_ =>
      bif (decide (0 ≤ i) && decide (i < (((List.length b_1) : Nat) : Int))) then
        (b_1[i.toNat]?).bind fun e_1 =>
        F0 k e_.1 e_.2 e_1.1 e_1.2 fun v =>
        bif (!v) then
          r0 false
        else
          G4 k (w64 (i + 1)) a1 b_1 b0 r0
      else
        none
    else
      none
  else
    b0 i a1 b_1
theorem h10a_g4 {α : Type} (F0 : T10 α) (G4 : T39 α) (n : Nat) : GenL (α := α) Try.prog Try.f10 S41 (h10a_x F0 G4 n) 4 h10a_t4 h10a_p4 n G4 (h10a_b4 F0 G4) := by intro _ _ _ _ _; kernel_rfl
def h10a_b {α : Type} (G4 : T39 α) (k : Nat) (a : List (Int × Int)) (b_ : List (Int × Int)) (r0 : Bool → Option α) : Option α :=
  bif (!decide ((((List.length a) : Nat) : Int) = (((List.length b_) : Nat) : Int))) then
    r0 false
  else
    G4 k 0 a b_
      (fun _ _ _ =>
        r0 true)
      r0
theorem h10a_g {α : Type} (F0 : T10 α) (G4 : T39 α) (n : Nat) : GenF (α := α) Try.prog Try.f10 S41 (h10a_x F0 G4 n) n (h10a_b G4) := by intro _ _ _; kernel_rfl
theorem h10a_good {α : Type} : ∀ n, GoodFn (α := α) Try.prog 10 (byShape S41.sh (callS S41 laws_eqPointS n)) := good_of Try.func10 (by kernel_rfl) (by kernel_rfl) (by kernel_rfl) eqs_ok (fun n => h10a_g laws_eqPoint laws_eqPointS_l4 n) (by delta h10a_b laws_eqPointS; rfl) (allC h32_good allN) (allC (loop_fine (by kernel_rfl) (fun n => by delta h10a_b4; funext _ _ _ _ _; exact (laws_eqPointS_l4.eq_2 ..).symm) (fun n => h10a_g4 laws_eqPoint laws_eqPointS_l4 n)) allN)

/-! loop.example/g01297/laws.markPointS -/
def h11_t2 : Tpl := ⟨(.sl 0 :: (.int .i64 :: (.any :: (.any :: (.any :: (.int .i64 :: (anyN 20 []))))))), [(0, .rows 1 32 .pt)], [], false⟩
def h11_p2 : PcS := loopS [.int, .int, .rows .pt] [0]
abbrev h11_x {α : Type} (G2 : T40 α) : Nat → Ctx α := ctxS false M eqs jt0 [] [lpT 2 h11_t2 h11_p2 R12 G2]
def h11_b2 {α : Type} (G2 : T40 α) (k : Nat) (k_1 : Int) (i : Int) (a1 : List (Int × Int)) (b0 : Int → Int → (List (Int × Int)) → Option α) (r0 : Int → (List (Int × Int)) → Option α) : Option α :=
  bif decide (i < (((List.length a1) : Nat) : Int)) then
    bif (decide (0 ≤ i) && decide (i < (((List.length a1) : Nat) : Int))) then
      (a1[i.toNat]?).bind fun e_ =>
      bif (decide (0 ≤ i) && decide (i < (((List.length (List.set a1 i.toNat (k_1, e_.2))) : Nat) : Int))) then
        ((List.set a1 i.toNat (k_1, e_.2))[i.toNat]?).bind fun e_1 =>
        G2 k (w64 ((w64 (k_1 + 1)) + 1)) (w64 (i + 1)) (List.set (List.set a1 i.toNat (k_1, e_.2)) i.toNat (e_1.1, (w64 (k_1 + 1)))) b0 r0
      else
        none
    else
      none
  else
    b0 k_1 i a1
theorem h11_g2 {α : Type} (G2 : T40 α) (n : Nat) : GenL (α := α) Try.prog Try.f11 S42 (h11_x G2 n) 2 h11_t2 h11_p2 n G2 (h11_b2 G2) := by intro _ _ _ _ _ _ _; kernel_rfl
def h11_b {α : Type} (G2 : T40 α) (k : Nat) (a : List (Int × Int)) (k_ : Int) (r0 : Int → (List (Int × Int)) → Option α) : Option α :=
  G2 k k_ 0 a
    (fun k_2 _ a2 =>
      r0 k_2 a2)
    r0
theorem h11_g {α : Type} (G2 : T40 α) (n : Nat) : GenF (α := α) Try.prog Try.f11 S42 (h11_x G2 n) n (h11_b G2) := by intro _ _ _; kernel_rfl
theorem h11_good {α : Type} : ∀ n, GoodFn (α := α) Try.prog 11 (byShape S42.sh (callS S42 laws_markPointS n)) := good_of Try.func11 (by kernel_rfl) (by kernel_rfl) (by kernel_rfl) eqs_ok (fun n => h11_g laws_markPointS_l2 n) (by delta h11_b laws_markPointS; rfl) allN (allC (loop_fine (by kernel_rfl) (fun n => by delta h11_b2; funext _ _ _ _ _; exact (laws_markPointS_l2.eq_2 ..).symm) (fun n => h11_g2 laws_markPointS_l2 n)) allN)

/-! loop.example/g01297/laws.markPointS -/
abbrev h11a_x {α : Type}  : Nat → Ctx α := ctxS false M eqs jt0 [] []
def h11a_b {α : Type}  (_ : Nat) (k_ : Int) (r0 : Int → Option α) : Option α :=
  r0 k_
theorem h11a_g {α : Type}  (n : Nat) : GenF (α := α) Try.prog Try.f11 S43 (h11a_x n) n (h11a_b) := by intro _ _; kernel_rfl
theorem h11a_good {α : Type} : ∀ n, GoodFn (α := α) Try.prog 11 (byShape S43.sh (callS S43 laws_markPointS_0N n)) := good_of Try.func11 (by kernel_rfl) (by kernel_rfl) (by kernel_rfl) eqs_ok (fun n => h11a_g n) (by delta h11a_b laws_markPointS_0N; rfl) allN allN

/-! loop.example/g01297/laws.heldPointS -/
abbrev h12_x {α : Type}  : Nat → Ctx α := ctxS false M eqs jt0 [] []
def h12_b {α : Type}  (_ : Nat) (k_ : Int) (r0 : Int → Option α) : Option α :=
  r0 k_
theorem h12_g {α : Type}  (n : Nat) : GenF (α := α) Try.prog Try.f12 S43 (h12_x n) n (h12_b) := by intro _ _; kernel_rfl
theorem h12_good {α : Type} : ∀ n, GoodFn (α := α) Try.prog 12 (byShape S43.sh (callS S43 laws_heldPointS_0N n)) := good_of Try.func12 (by kernel_rfl) (by kernel_rfl) (by kernel_rfl) eqs_ok (fun n => h12_g n) (by delta h12_b laws_heldPointS_0N; rfl) allN allN

/-! loop.example/g01297/laws.eqPointS -/
def h10b_t4 : Tpl := ⟨(.sl 0 :: (.nilsl :: (.any :: (.any :: (.any :: (.int .i64 :: (anyN 21 []))))))), [(0, .rows 0 32 .pt)], [], false⟩
def h10b_p4 : PcS := loopS [.int, .rows .pt] [0]
abbrev h10b_x {α : Type} (G4 : T41 α) : Nat → Ctx α := ctxS false M eqs jt0 [] [lpT 4 h10b_t4 h10b_p4 R4 G4]
def h10b_b4 {α : Type}  (_ : Nat) (i : Int) (a1 : List (Int × Int)) (b0 : Int → (List (Int × Int)) → Option α) (_ : Bool → Option α) : Option α :=
  bif decide (i < (((List.length a1) : Nat) : Int)) then
    bif (decide (0 ≤ i) && decide (i < (((List.length a1) : Nat) : Int))) then
      (a1[i.toNat]?).bind fun _ =>
      none
    else
      none
  else
    b0 i a1
theorem h10b_g4 {α : Type} (G4 : T41 α) (n : Nat) : GenL (α := α) Try.prog Try.f10 S44 (h10b_x G4 n) 4 h10b_t4 h10b_p4 n G4 (h10b_b4) := by intro _ _ _ _; kernel_rfl
def h10b_b {α : Type} (G4 : T41 α) (k : Nat) (a : List (Int × Int)) (r0 : Bool → Option α) : Option α :=
  bif (!decide ((((List.length a) : Nat) : Int) = 0)) then
    r0 false
  else
    G4 k 0 a
      (fun _ _ =>
        r0 true)
      r0
theorem h10b_g {α : Type} (G4 : T41 α) (n : Nat) : GenF (α := α) Try.prog Try.f10 S44 (h10b_x G4 n) n (h10b_b G4) := by intro _ _; kernel_rfl
theorem h10b_good {α : Type} : ∀ n, GoodFn (α := α) Try.prog 10 (byShape S44.sh (callS S44 laws_eqPointS_1N n)) := good_of Try.func10 (by kernel_rfl) (by kernel_rfl) (by kernel_rfl) eqs_ok (fun n => h10b_g laws_eqPointS_1N_l4 n) (by delta h10b_b laws_eqPointS_1N; rfl) allN (allC (loop_fine (by kernel_rfl) (fun n => by delta h10b_b4; funext _ _ _ _; exact (laws_eqPointS_1N_l4.eq_2 ..).symm) (fun n => h10b_g4 laws_eqPointS_1N_l4 n)) allN)

/-! loop.example/g01297/laws.heldPointS -/
def h12a_t2 : Tpl := ⟨(.sl 0 :: (.int .i64 :: (.any :: (.any :: (.any :: (.int .i64 :: (anyN 22 []))))))), [(0, .rows 0 32 .pt)], [], false⟩
def h12a_p2 : PcS := loopS [.int, .int, .rows .pt] [0]
abbrev h12a_x {α : Type} (G2 : T18 α) : Nat → Ctx α := ctxS false M eqs jt0 [] [lpT 2 h12a_t2 h12a_p2 R0 G2]
def h12a_b2 {α : Type} (G2 : T18 α) (k : Nat) (k_1 : Int) (i : Int) (a1 : List (Int × Int)) (b0 : Int → Int → (List (Int × Int)) → Option α) (r0 : Int → Option α) : Option α :=
  bif decide (i < (((List.length a1) : Nat) : Int)) then
    bif (decide (0 ≤ i) && decide (i < (((List.length a1) : Nat) : Int))) then
      (a1[i.toNat]?).bind fun e_ =>
      bif (!decide (e_.1 = k_1)) then
        r0 (-1)
      else
      bif (decide (0 ≤ i) && decide (i < (((List.length a1) : Nat) : Int))) then
        (a1[i.toNat]?).bind fun e_1 =>
        bif (!decide (e_1.2 = (w64 (k_1 + 1)))) then
          r0 (-1)
        else
          G2 k (w64 ((w64 (k_1 + 1)) + 1)) (w64 (i + 1)) a1 b0 r0
      else
        none
    else
      none
  else
    b0 k_1 i a1
theorem h12a_g2 {α : Type} (G2 : T18 α) (n : Nat) : GenL (α := α) Try.prog Try.f12 S45 (h12a_x G2 n) 2 h12a_t2 h12a_p2 n G2 (h12a_b2 G2) := by intro _ _ _ _ _; kernel_rfl
def h12a_b {α : Type} (G2 : T18 α) (k : Nat) (a : List (Int × Int)) (k_ : Int) (r0 : Int → Option α) : Option α :=
  G2 k k_ 0 a
    (fun k_2 _ _ =>
      r0 k_2)
    r0
theorem h12a_g {α : Type} (G2 : T18 α) (n : Nat) : GenF (α := α) Try.prog Try.f12 S45 (h12a_x G2 n) n (h12a_b G2) := by intro _ _ _; kernel_rfl
theorem h12a_good {α : Type} : ∀ n, GoodFn (α := α) Try.prog 12 (byShape S45.sh (callS S45 laws_heldPointS n)) := good_of Try.func12 (by kernel_rfl) (by kernel_rfl) (by kernel_rfl) eqs_ok (fun n => h12a_g laws_heldPointS_l2 n) (by delta h12a_b laws_heldPointS; rfl) allN (allC (loop_fine (by kernel_rfl) (fun n => by delta h12a_b2; funext _ _ _ _ _; exact (laws_heldPointS_l2.eq_2 ..).symm) (fun n => h12a_g2 laws_heldPointS_l2 n)) allN)

/-! loop.example/g01297/laws.eqPointS -/
abbrev h10c_x {α : Type}  : Nat → Ctx α := ctxS false M eqs jt0 [] []
def h10c_b {α : Type}  (_ : Nat) (b_ : List (Int × Int)) (r0 : Bool → Option α) : Option α :=
  bif (!decide (0 = (((List.length b_) : Nat) : Int))) then
    r0 false
  else
    r0 true
theorem h10c_g {α : Type}  (n : Nat) : GenF (α := α) Try.prog Try.f10 S46 (h10c_x n) n (h10c_b) := by intro _ _; kernel_rfl
theorem h10c_good {α : Type} : ∀ n, GoodFn (α := α) Try.prog 10 (byShape S46.sh (callS S46 laws_eqPointS_0N n)) := good_of Try.func10 (by kernel_rfl) (by kernel_rfl) (by kernel_rfl) eqs_ok (fun n => h10c_g n) (by delta h10c_b laws_eqPointS_0N; rfl) allN allN

end Go.Proofs.Ytgfnlccaleialaa
