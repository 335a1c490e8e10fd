/- The program's functions hold to their readings without memory: printed by a program of ours. -/
import Derived.Test.YtgpmeanhkkkghaaSeXTrianglesOfArea
namespace Go.Proofs.Ytgpmeanhkkkghaa
open Go Go.Ev Go.Sh Go.Proofs

/-! loop.example/g01297/spec.l01In -/
abbrev h9_x {α : Type}  : Nat → Ctx α := ctxS M eqs jt0 [] []
def h9_b {α : Type}  (_ : Nat) (n_ : Int) (low : Int) (high : Int) (r0 : Bool → Option α) : Option α :=
  bif decide (low ≤ n_) then
    r0 (decide (n_ ≤ high))
  else
    r0 false
theorem h9_g {α : Type}  (n : Nat) : GenF (α := α) Try.prog Try.f9 S0 (h9_x n) n (h9_b) := by intro _ _ _ _; kernel_rfl
theorem h9_good {α : Type} : ∀ n, GoodFn (α := α) Try.prog 9 (byShape S0.sh (callS S0 spec_l01In n)) := good_of Try.func9 (by kernel_rfl) (by kernel_rfl) (by kernel_rfl) eqs_ok (fun n => h9_g n) (by delta h9_b spec_l01In; rfl) allN allN

/-! loop.example/g01297/spec.l04Of -/
abbrev h11_x {α : Type}  : Nat → Ctx α := ctxS M eqs jt0 [] []
def h11_b {α : Type}  (_ : Nat) (x : Int) (x1 : Int) (x2 : Int) (r0 : Int → Int → Int → Int → Int → Int → Option α) : Option α :=
  r0 0 0 x 0 x1 x2
theorem h11_g {α : Type}  (n : Nat) : GenF (α := α) Try.prog Try.f11 S1 (h11_x n) n (h11_b) := by intro _ _ _ _; kernel_rfl
theorem h11_good {α : Type} : ∀ n, GoodFn (α := α) Try.prog 11 (byShape S1.sh (callS S1 spec_l04Of n)) := good_of Try.func11 (by kernel_rfl) (by kernel_rfl) (by kernel_rfl) eqs_ok (fun n => h11_g n) (by delta h11_b spec_l04Of; rfl) allN allN

/-! loop.example/g01297/spec.l01Plus -/
abbrev h26_x {α : Type}  : Nat → Ctx α := ctxS M eqs jt0 [] []
def h26_b {α : Type}  (_ : Nat) (a : Int) (a1 : Int) (b_ : Int) (b_1 : Int) (k_ : Int) (r0 : Int → Int → Option α) : Option α :=
  r0 (w64 (a + (w64 (k_ * b_)))) (w64 (a1 + (w64 (k_ * b_1))))
theorem h26_g {α : Type}  (n : Nat) : GenF (α := α) Try.prog Try.f26 S2 (h26_x n) n (h26_b) := by intro _ _ _ _ _ _; kernel_rfl
theorem h26_good {α : Type} : ∀ n, GoodFn (α := α) Try.prog 26 (byShape S2.sh (callS S2 spec_l01Plus n)) := good_of Try.func26 (by kernel_rfl) (by kernel_rfl) (by kernel_rfl) eqs_ok (fun n => h26_g n) (by delta h26_b spec_l01Plus; rfl) allN allN

/-! loop.example/g01297/spec.l01Gcd -/
def h51_t1 : Tpl := ⟨(.int .i64 :: (.int .i64 :: (anyN 15 []))), [], [], false⟩
def h51_p1 : PcS := loopS [.int, .int] [0]
abbrev h51_x {α : Type} (G1 : T0 α) : Nat → Ctx α := ctxS M eqs jt0 [] [lpT 1 h51_t1 h51_p1 R3 G1]
def h51_b1 {α : Type} (G1 : T0 α) (k : Nat) (a1 : Int) (b_1 : Int) (b0 : Int → Int → Option α) (r0 : Int → Option α) : Option α :=
  bif (!decide (b_1 = 0)) then
    bif decide (b_1 = 0) then
      none
    else
      G1 k b_1 (Int.tmod a1 b_1) b0 r0
  else
    b0 a1 b_1
theorem h51_g1 {α : Type} (G1 : T0 α) (n : Nat) : GenL (α := α) Try.prog Try.f51 S3 (h51_x G1 n) 1 h51_t1 h51_p1 n G1 (h51_b1 G1) := by intro _ _ _ _; kernel_rfl
def h51_b {α : Type} (G1 : T0 α) (k : Nat) (a : Int) (b_ : Int) (r0 : Int → Option α) : Option α :=
  G1 k a b_
    (fun a2 _ =>
      r0 (max a2 (w64 (0 - a2))))
    r0
theorem h51_g {α : Type} (G1 : T0 α) (n : Nat) : GenF (α := α) Try.prog Try.f51 S3 (h51_x G1 n) n (h51_b G1) := by intro _ _ _; kernel_rfl
theorem h51_good {α : Type} : ∀ n, GoodFn (α := α) Try.prog 51 (byShape S3.sh (callS S3 spec_l01Gcd n)) := good_of Try.func51 (by kernel_rfl) (by kernel_rfl) (by kernel_rfl) eqs_ok (fun n => h51_g spec_l01Gcd_l1 n) (by delta h51_b spec_l01Gcd; rfl) allN (allC (loop_fine (by kernel_rfl) (fun n => by delta h51_b1; funext _ _ _ _; exact (spec_l01Gcd_l1.eq_2 ..).symm) (fun n => h51_g1 spec_l01Gcd_l1 n)) allN)

/-! loop.example/g01297/spec.l01Part -/
abbrev h27_x {α : Type} (F0 : T1 α) : Nat → Ctx α := ctxS M eqs jt0 [⟨51, S3, F0⟩] []
def h27_b {α : Type} (F0 : T1 α) (k : Nat) (a : Int) (a1 : Int) (r0 : Int → Int → Option α) : Option α :=
  F0 k a a1 fun v =>
  bif decide (v = 0) then
    none
  else
  bif decide (v = 0) then
    none
  else
    r0 (w64 (Int.tdiv a v)) (w64 (Int.tdiv a1 v))
theorem h27_g {α : Type} (F0 : T1 α) (n : Nat) : GenF (α := α) Try.prog Try.f27 S4 (h27_x F0 n) n (h27_b F0) := by intro _ _ _; kernel_rfl
theorem h27_good {α : Type} : ∀ n, GoodFn (α := α) Try.prog 27 (byShape S4.sh (callS S4 spec_l01Part n)) := good_of Try.func27 (by kernel_rfl) (by kernel_rfl) (by kernel_rfl) eqs_ok (fun n => h27_g spec_l01Gcd n) (by delta h27_b spec_l01Part; rfl) (allC h51_good allN) allN

/-! loop.example/g01297/spec.l01Length -/
abbrev h28_x {α : Type} (F0 : T1 α) : Nat → Ctx α := ctxS M eqs jt0 [⟨51, S3, F0⟩] []
def h28_b {α : Type} (F0 : T1 α) (k : Nat) (a : Int) (a1 : Int) (b_ : Int) (b_1 : Int) (r0 : Int → Option α) : Option α :=
  F0 k (w64 (b_ - a)) (w64 (b_1 - a1)) fun v =>
  r0 v
theorem h28_g {α : Type} (F0 : T1 α) (n : Nat) : GenF (α := α) Try.prog Try.f28 S5 (h28_x F0 n) n (h28_b F0) := by intro _ _ _ _ _; kernel_rfl
theorem h28_good {α : Type} : ∀ n, GoodFn (α := α) Try.prog 28 (byShape S5.sh (callS S5 spec_l01Length n)) := good_of Try.func28 (by kernel_rfl) (by kernel_rfl) (by kernel_rfl) eqs_ok (fun n => h28_g spec_l01Gcd n) (by delta h28_b spec_l01Length; rfl) (allC h51_good allN) allN

/-! loop.example/g01297/spec.l01Det -/
abbrev h31_x {α : Type}  : Nat → Ctx α := ctxS M eqs jt0 [] []
def h31_b {α : Type}  (_ : Nat) (a : Int) (a1 : Int) (b_ : Int) (b_1 : Int) (r0 : Int → Option α) : Option α :=
  r0 (w64 ((w64 (a * b_1)) - (w64 (a1 * b_))))
theorem h31_g {α : Type}  (n : Nat) : GenF (α := α) Try.prog Try.f31 S5 (h31_x n) n (h31_b) := by intro _ _ _ _ _; kernel_rfl
theorem h31_good {α : Type} : ∀ n, GoodFn (α := α) Try.prog 31 (byShape S5.sh (callS S5 spec_l01Det n)) := good_of Try.func31 (by kernel_rfl) (by kernel_rfl) (by kernel_rfl) eqs_ok (fun n => h31_g n) (by delta h31_b spec_l01Det; rfl) allN allN

/-! loop.example/g01297/spec.l01Area -/
abbrev h52_x {α : Type} (F0 : T2 α) (F1 : T3 α) : Nat → Ctx α := ctxS M eqs jt0 [⟨26, S2, F0⟩, ⟨31, S5, F1⟩] []
def h52_b {α : Type} (F0 : T2 α) (F1 : T3 α) (k : Nat) (a : Int) (a1 : Int) (b_ : Int) (b_1 : Int) (c : Int) (c1 : Int) (r0 : Int → Option α) : Option α :=
  F0 k b_ b_1 a a1 (-1) fun v v1 =>
  F0 k c c1 a a1 (-1) fun v2 v3 =>
  F1 k v v1 v2 v3 fun v4 =>
  r0 (max v4 (w64 (0 - v4)))
theorem h52_g {α : Type} (F0 : T2 α) (F1 : T3 α) (n : Nat) : GenF (α := α) Try.prog Try.f52 S6 (h52_x F0 F1 n) n (h52_b F0 F1) := by intro _ _ _ _ _ _ _; kernel_rfl
theorem h52_good {α : Type} : ∀ n, GoodFn (α := α) Try.prog 52 (byShape S6.sh (callS S6 spec_l01Area n)) := good_of Try.func52 (by kernel_rfl) (by kernel_rfl) (by kernel_rfl) eqs_ok (fun n => h52_g spec_l01Plus spec_l01Det n) (by delta h52_b spec_l01Area; rfl) (allC h26_good (allC h31_good allN)) allN

/-! loop.example/g01297/spec.l04Area -/
abbrev h29_x {α : Type} (F0 : T4 α) : Nat → Ctx α := ctxS M eqs jt0 [⟨52, S6, F0⟩] []
def h29_b {α : Type} (F0 : T4 α) (k : Nat) (t : Int) (t1 : Int) (t2 : Int) (t3 : Int) (t4 : Int) (t5 : Int) (r0 : Int → Option α) : Option α :=
  F0 k t t1 t2 t3 t4 t5 fun v =>
  r0 v
theorem h29_g {α : Type} (F0 : T4 α) (n : Nat) : GenF (α := α) Try.prog Try.f29 S7 (h29_x F0 n) n (h29_b F0) := by intro _ _ _ _ _ _ _; kernel_rfl
theorem h29_good {α : Type} : ∀ n, GoodFn (α := α) Try.prog 29 (byShape S7.sh (callS S7 spec_l04Area n)) := good_of Try.func29 (by kernel_rfl) (by kernel_rfl) (by kernel_rfl) eqs_ok (fun n => h29_g spec_l01Area n) (by delta h29_b spec_l04Area; rfl) (allC h52_good allN) allN

/-! loop.example/g01297/spec.l01Rest -/
abbrev h30_x {α : Type}  : Nat → Ctx α := ctxS M eqs jt0 [] []
def h30_b {α : Type}  (_ : Nat) (n_ : Int) (x : Int) (r0 : Int → Option α) : Option α :=
  bif decide (n_ = 0) then
    none
  else
  bif decide (n_ = 0) then
    none
  else
    r0 (Int.tmod (w64 ((Int.tmod x n_) + n_)) n_)
theorem h30_g {α : Type}  (n : Nat) : GenF (α := α) Try.prog Try.f30 S3 (h30_x n) n (h30_b) := by intro _ _ _; kernel_rfl
theorem h30_good {α : Type} : ∀ n, GoodFn (α := α) Try.prog 30 (byShape S3.sh (callS S3 spec_l01Rest n)) := good_of Try.func30 (by kernel_rfl) (by kernel_rfl) (by kernel_rfl) eqs_ok (fun n => h30_g n) (by delta h30_b spec_l01Rest; rfl) allN allN

/-! loop.example/g01297/spec.l01Base -/
def h32_t5 : Tpl := ⟨(.any :: (.ptr 64 0 0 :: (.ptr 128 0 0 :: (.int .i64 :: (.int .i64 :: (.int .i64 :: (.int .i64 :: (.int .i64 :: (anyN 50 []))))))))), [(64, .ints 2 33 .i64 2), (128, .ints 2 33 .i64 2)], [], false⟩
def h32_p5 : PcS := loopS [.int, .int, .int, .int, .int, .int, .int, .int, .int] [0]
abbrev h32_x {α : Type} (F0 : T1 α) (G5 : T5 α) : Nat → Ctx α := ctxS M eqs jt0 [⟨30, S3, F0⟩] [lpT 5 h32_t5 h32_p5 R2 G5]
def h32_b5 {α : Type} (G5 : T5 α) (k : Nat) (n_ : Int) (x : Int) (before : Int) (rest : Int) (next : Int) (a2 : Int) (a3 : Int) (x1 : Int) (x2 : Int) (b0 : Int → Int → Int → Int → Int → Int → Int → Int → Int → Option α) (r0 : Int → Int → Option α) : Option α :=
  bif (!decide (next = 0)) then
    bif decide (next = 0) then
      none
    else
      G5 k n_ before (w64 (x - (w64 ((w64 (Int.tdiv rest next)) * before)))) next (w64 (rest - (w64 ((w64 (Int.tdiv rest next)) * next)))) a2 a3 x1 x2 b0 r0
  else
    b0 n_ x before rest next a2 a3 x1 x2
theorem h32_g5 {α : Type} (F0 : T1 α) (G5 : T5 α) (n : Nat) : GenL (α := α) Try.prog Try.f32 S4 (h32_x F0 G5 n) 5 h32_t5 h32_p5 n G5 (h32_b5 G5) := by intro _ _ _ _ _ _ _ _ _ _ _; kernel_rfl
def h32_b {α : Type} (F0 : T1 α) (G5 : T5 α) (k : Nat) (a : Int) (a1 : Int) (r0 : Int → Int → Option α) : Option α :=
  bif decide (a = 0) then
    r0 (w64 (0 - a1)) 0
  else
    F0 k (max a (w64 (0 - a))) a1 fun v =>
    G5 k (max a (w64 (0 - a))) 1 0 v (max a (w64 (0 - a))) a a1 0 0
      (fun n_1 x3 _ _ _ a4 a5 _ _ =>
        F0 k n_1 (w64 (0 - x3)) fun v1 =>
        bif decide (a4 = 0) then
          none
        else
          r0 v1 (w64 (Int.tdiv (w64 (1 + (w64 (a5 * v1)))) a4)))
      r0
theorem h32_g {α : Type} (F0 : T1 α) (G5 : T5 α) (n : Nat) : GenF (α := α) Try.prog Try.f32 S4 (h32_x F0 G5 n) n (h32_b F0 G5) := by intro _ _ _; kernel_rfl
theorem h32_good {α : Type} : ∀ n, GoodFn (α := α) Try.prog 32 (byShape S4.sh (callS S4 spec_l01Base n)) := good_of Try.func32 (by kernel_rfl) (by kernel_rfl) (by kernel_rfl) eqs_ok (fun n => h32_g spec_l01Rest spec_l01Base_l5 n) (by delta h32_b spec_l01Base; rfl) (allC h30_good allN) (allC (loop_fine (by kernel_rfl) (fun n => by delta h32_b5; funext _ _ _ _ _ _ _ _ _ _ _; exact (spec_l01Base_l5.eq_2 ..).symm) (fun n => h32_g5 spec_l01Rest spec_l01Base_l5 n)) allN)

/-! loop.example/g01297/spec.l04Shape -/
abbrev h19_x {α : Type} (F0 : T2 α) (F1 : T6 α) (F2 : T3 α) (F3 : T4 α) (F4 : T6 α) (F5 : T3 α) (F6 : T1 α) : Nat → Ctx α := ctxS M eqs jt0 [⟨26, S2, F0⟩, ⟨27, S4, F1⟩, ⟨28, S5, F2⟩, ⟨29, S7, F3⟩, ⟨32, S4, F4⟩, ⟨31, S5, F5⟩, ⟨30, S3, F6⟩] []
def h19_b {α : Type} (F0 : T2 α) (F1 : T6 α) (F2 : T3 α) (F3 : T4 α) (F4 : T6 α) (F5 : T3 α) (F6 : T1 α) (k : Nat) (t : Int) (t1 : Int) (t2 : Int) (t3 : Int) (t4 : Int) (t5 : Int) (i : Int) (j : Int) (r0 : Int → Int → Int → Option α) : Option α :=
  bif (decide (0 ≤ j) && decide (j < 3)) then
    ([t, t1, t2, t3, t4, t5][(j.toNat * 2)]?).bind fun e_ =>
    ([t, t1, t2, t3, t4, t5][((j.toNat * 2) + 1)]?).bind fun e_1 =>
    bif (decide (0 ≤ i) && decide (i < 3)) then
      ([t, t1, t2, t3, t4, t5][(i.toNat * 2)]?).bind fun e_2 =>
      ([t, t1, t2, t3, t4, t5][((i.toNat * 2) + 1)]?).bind fun e_3 =>
      bif (decide (0 ≤ (w64 ((w64 (3 - i)) - j))) && decide ((w64 ((w64 (3 - i)) - j)) < 3)) then
        ([t, t1, t2, t3, t4, t5][((w64 ((w64 (3 - i)) - j)).toNat * 2)]?).bind fun e_4 =>
        ([t, t1, t2, t3, t4, t5][(((w64 ((w64 (3 - i)) - j)).toNat * 2) + 1)]?).bind fun e_5 =>
        bif (decide (0 ≤ i) && decide (i < 3)) then
          ([t, t1, t2, t3, t4, t5][(i.toNat * 2)]?).bind fun e_6 =>
          ([t, t1, t2, t3, t4, t5][((i.toNat * 2) + 1)]?).bind fun e_7 =>
          F0 k e_ e_1 e_2 e_3 (-1) fun v v1 =>
          F0 k e_4 e_5 e_6 e_7 (-1) fun v2 v3 =>
          F1 k v v1 fun v4 v5 =>
          bif (decide (0 ≤ i) && decide (i < 3)) then
            ([t, t1, t2, t3, t4, t5][(i.toNat * 2)]?).bind fun e_8 =>
            ([t, t1, t2, t3, t4, t5][((i.toNat * 2) + 1)]?).bind fun e_9 =>
            bif (decide (0 ≤ j) && decide (j < 3)) then
              ([t, t1, t2, t3, t4, t5][(j.toNat * 2)]?).bind fun e_10 =>
              ([t, t1, t2, t3, t4, t5][((j.toNat * 2) + 1)]?).bind fun e_11 =>
              F2 k e_8 e_9 e_10 e_11 fun v6 =>
              F3 k t t1 t2 t3 t4 t5 fun v7 =>
              bif decide (v6 = 0) then
                none
              else
                F4 k v4 v5 fun v8 v9 =>
                F5 k v2 v3 v8 v9 fun v10 =>
                F6 k (w64 (Int.tdiv v7 v6)) v10 fun v11 =>
                r0 v6 v11 (w64 (Int.tdiv v7 v6))
            else
              none
          else
            none
        else
          none
      else
        none
    else
      none
  else
    none
theorem h19_g {α : Type} (F0 : T2 α) (F1 : T6 α) (F2 : T3 α) (F3 : T4 α) (F4 : T6 α) (F5 : T3 α) (F6 : T1 α) (n : Nat) : GenF (α := α) Try.prog Try.f19 S8 (h19_x F0 F1 F2 F3 F4 F5 F6 n) n (h19_b F0 F1 F2 F3 F4 F5 F6) := by intro _ _ _ _ _ _ _ _ _; kernel_rfl
theorem h19_good {α : Type} : ∀ n, GoodFn (α := α) Try.prog 19 (byShape S8.sh (callS S8 spec_l04Shape n)) := good_of Try.func19 (by kernel_rfl) (by kernel_rfl) (by kernel_rfl) eqs_ok (fun n => h19_g spec_l01Plus spec_l01Part spec_l01Length spec_l04Area spec_l01Base spec_l01Det spec_l01Rest n) (by delta h19_b spec_l04Shape; rfl) (allC h26_good (allC h27_good (allC h28_good (allC h29_good (allC h32_good (allC h31_good (allC h30_good allN))))))) allN

/-! loop.example/g01297/spec.l04Before -/
abbrev h20_x {α : Type}  : Nat → Ctx α := ctxS M eqs jt0 [] []
def h20_b {α : Type}  (_ : Nat) (x : Int) (x1 : Int) (x2 : Int) (y : Int) (y1 : Int) (y2 : Int) (r0 : Bool → Option α) : Option α :=
  bif (!decide (x = y)) then
    r0 (decide (x < y))
  else
  bif (!decide (x1 = y1)) then
    r0 (decide (x1 < y1))
  else
    r0 (decide (x2 < y2))
theorem h20_g {α : Type}  (n : Nat) : GenF (α := α) Try.prog Try.f20 S9 (h20_x n) n (h20_b) := by intro _ _ _ _ _ _ _; kernel_rfl
theorem h20_good {α : Type} : ∀ n, GoodFn (α := α) Try.prog 20 (byShape S9.sh (callS S9 spec_l04Before n)) := good_of Try.func20 (by kernel_rfl) (by kernel_rfl) (by kernel_rfl) eqs_ok (fun n => h20_g n) (by delta h20_b spec_l04Before; rfl) allN allN

/-! loop.example/g01297/spec.l04Normal -/
def h10_t3 : Tpl := ⟨(.any :: (.ptr 64 0 0 :: (.ptr 128 0 0 :: (.ptr 192 0 0 :: (.int .i64 :: (anyN 24 [])))))), [(64, .ints 2 35 .i64 6), (128, .ints 2 30 .i64 3), (192, .ints 2 30 .i64 3)], [], false⟩
def h10_p3 : PcS := loopS [.int, .int, .int, .int, .int, .int, .int, .int, .int, .int, .int, .int, .int] [0]
abbrev h10_x {α : Type} (F0 : T7 α) (F1 : T8 α) (G3 : T9 α) : Nat → Ctx α := ctxS M eqs jt0 [⟨19, S8, F0⟩, ⟨20, S9, F1⟩] [lpT 3 h10_t3 h10_p3 R4 G3]
def h10_b3 {α : Type} (F0 : T7 α) (F1 : T8 α) (G3 : T9 α) (k : Nat) (i : Int) (t6 : Int) (t7 : Int) (t8 : Int) (t9 : Int) (t10 : Int) (t11 : Int) (x : Int) (x1 : Int) (x2 : Int) (out : Int) (out1 : Int) (out2 : Int) (b0 : Int → Int → Int → Int → Int → Int → Int → Int → Int → Int → Int → Int → Int → Option α) (r0 : Int → Int → Int → Option α) : Option α :=
  bif decide (i < 3) then
    bif decide (i = 0) then
      bif decide (i = 1) then
        bif decide (i = 2) then
          G3 k (w64 (i + 1)) t6 t7 t8 t9 t10 t11 x x1 x2 out out1 out2 b0 r0
        else
          F0 k t6 t7 t8 t9 t10 t11 i 2 fun v3 v4 v5 =>
          F1 k v3 v4 v5 out out1 out2 fun v6 =>
          bif v6 then
            G3 k (w64 (i + 1)) t6 t7 t8 t9 t10 t11 x x1 x2 v3 v4 v5 b0 r0
          else
            G3 k (w64 (i + 1)) t6 t7 t8 t9 t10 t11 x x1 x2 out out1 out2 b0 r0
      else
        F0 k t6 t7 t8 t9 t10 t11 i 1 fun v7 v8 v9 =>
        F1 k v7 v8 v9 out out1 out2 fun v10 =>
        bif v10 then
          bif decide (i = 2) then
            G3 k (w64 (i + 1)) t6 t7 t8 t9 t10 t11 x x1 x2 v7 v8 v9 b0 r0
          else
            F0 k t6 t7 t8 t9 t10 t11 i 2 fun v11 v12 v13 =>
            F1 k v11 v12 v13 v7 v8 v9 fun v14 =>
            bif v14 then
              G3 k (w64 (i + 1)) t6 t7 t8 t9 t10 t11 x x1 x2 v11 v12 v13 b0 r0
            else
              G3 k (w64 (i + 1)) t6 t7 t8 t9 t10 t11 x x1 x2 v7 v8 v9 b0 r0
        else
        bif decide (i = 2) then
          G3 k (w64 (i + 1)) t6 t7 t8 t9 t10 t11 x x1 x2 out out1 out2 b0 r0
        else
          F0 k t6 t7 t8 t9 t10 t11 i 2 fun v15 v16 v17 =>
          F1 k v15 v16 v17 out out1 out2 fun v18 =>
          bif v18 then
            G3 k (w64 (i + 1)) t6 t7 t8 t9 t10 t11 x x1 x2 v15 v16 v17 b0 r0
          else
            G3 k (w64 (i + 1)) t6 t7 t8 t9 t10 t11 x x1 x2 out out1 out2 b0 r0
    else
      F0 k t6 t7 t8 t9 t10 t11 i 0 fun v19 v20 v21 =>
      F1 k v19 v20 v21 out out1 out2 fun v22 =>
      bif v22 then
        bif decide (i = 1) then
          bif decide (i = 2) then
            G3 k (w64 (i + 1)) t6 t7 t8 t9 t10 t11 x x1 x2 v19 v20 v21 b0 r0
          else
            F0 k t6 t7 t8 t9 t10 t11 i 2 fun v23 v24 v25 =>
            F1 k v23 v24 v25 v19 v20 v21 fun v26 =>
            bif v26 then
              G3 k (w64 (i + 1)) t6 t7 t8 t9 t10 t11 x x1 x2 v23 v24 v25 b0 r0
            else
              G3 k (w64 (i + 1)) t6 t7 t8 t9 t10 t11 x x1 x2 v19 v20 v21 b0 r0
        else
          F0 k t6 t7 t8 t9 t10 t11 i 1 fun v27 v28 v29 =>
          F1 k v27 v28 v29 v19 v20 v21 fun v30 =>
          bif v30 then
            bif decide (i = 2) then
              G3 k (w64 (i + 1)) t6 t7 t8 t9 t10 t11 x x1 x2 v27 v28 v29 b0 r0
            else
              F0 k t6 t7 t8 t9 t10 t11 i 2 fun v31 v32 v33 =>
              F1 k v31 v32 v33 v27 v28 v29 fun v34 =>
              bif v34 then
                G3 k (w64 (i + 1)) t6 t7 t8 t9 t10 t11 x x1 x2 v31 v32 v33 b0 r0
              else
                G3 k (w64 (i + 1)) t6 t7 t8 t9 t10 t11 x x1 x2 v27 v28 v29 b0 r0
          else
          bif decide (i = 2) then
            G3 k (w64 (i + 1)) t6 t7 t8 t9 t10 t11 x x1 x2 v19 v20 v21 b0 r0
          else
            F0 k t6 t7 t8 t9 t10 t11 i 2 fun v35 v36 v37 =>
            F1 k v35 v36 v37 v19 v20 v21 fun v38 =>
            bif v38 then
              G3 k (w64 (i + 1)) t6 t7 t8 t9 t10 t11 x x1 x2 v35 v36 v37 b0 r0
            else
              G3 k (w64 (i + 1)) t6 t7 t8 t9 t10 t11 x x1 x2 v19 v20 v21 b0 r0
      else
      bif decide (i = 1) then
        bif decide (i = 2) then
          G3 k (w64 (i + 1)) t6 t7 t8 t9 t10 t11 x x1 x2 out out1 out2 b0 r0
        else
          F0 k t6 t7 t8 t9 t10 t11 i 2 fun v39 v40 v41 =>
          F1 k v39 v40 v41 out out1 out2 fun v42 =>
          bif v42 then
            G3 k (w64 (i + 1)) t6 t7 t8 t9 t10 t11 x x1 x2 v39 v40 v41 b0 r0
          else
            G3 k (w64 (i + 1)) t6 t7 t8 t9 t10 t11 x x1 x2 out out1 out2 b0 r0
      else
        F0 k t6 t7 t8 t9 t10 t11 i 1 fun v43 v44 v45 =>
        F1 k v43 v44 v45 out out1 out2 fun v46 =>
        bif v46 then
          bif decide (i = 2) then
            G3 k (w64 (i + 1)) t6 t7 t8 t9 t10 t11 x x1 x2 v43 v44 v45 b0 r0
          else
            F0 k t6 t7 t8 t9 t10 t11 i 2 fun v47 v48 v49 =>
            F1 k v47 v48 v49 v43 v44 v45 fun v50 =>
            bif v50 then
              G3 k (w64 (i + 1)) t6 t7 t8 t9 t10 t11 x x1 x2 v47 v48 v49 b0 r0
            else
              G3 k (w64 (i + 1)) t6 t7 t8 t9 t10 t11 x x1 x2 v43 v44 v45 b0 r0
        else
        bif decide (i = 2) then
          G3 k (w64 (i + 1)) t6 t7 t8 t9 t10 t11 x x1 x2 out out1 out2 b0 r0
        else
          F0 k t6 t7 t8 t9 t10 t11 i 2 fun v51 v52 v53 =>
          F1 k v51 v52 v53 out out1 out2 fun v54 =>
          bif v54 then
            G3 k (w64 (i + 1)) t6 t7 t8 t9 t10 t11 x x1 x2 v51 v52 v53 b0 r0
          else
            G3 k (w64 (i + 1)) t6 t7 t8 t9 t10 t11 x x1 x2 out out1 out2 b0 r0
  else
    b0 i t6 t7 t8 t9 t10 t11 x x1 x2 out out1 out2
theorem h10_g3 {α : Type} (F0 : T7 α) (F1 : T8 α) (G3 : T9 α) (n : Nat) : GenL (α := α) Try.prog Try.f10 S10 (h10_x F0 F1 G3 n) 3 h10_t3 h10_p3 n G3 (h10_b3 F0 F1 G3) := by intro _ _ _ _ _ _ _ _ _ _ _ _ _ _ _; kernel_rfl
def h10_b {α : Type} (F0 : T7 α) (G3 : T9 α) (k : Nat) (t : Int) (t1 : Int) (t2 : Int) (t3 : Int) (t4 : Int) (t5 : Int) (r0 : Int → Int → Int → Option α) : Option α :=
  F0 k t t1 t2 t3 t4 t5 0 1 fun v v1 v2 =>
  G3 k 0 t t1 t2 t3 t4 t5 0 0 0 v v1 v2
    (fun _ _ _ _ _ _ _ _ _ _ out3 out4 out5 =>
      r0 out3 out4 out5)
    r0
theorem h10_g {α : Type} (F0 : T7 α) (F1 : T8 α) (G3 : T9 α) (n : Nat) : GenF (α := α) Try.prog Try.f10 S10 (h10_x F0 F1 G3 n) n (h10_b F0 G3) := by intro _ _ _ _ _ _ _; kernel_rfl
theorem h10_good {α : Type} : ∀ n, GoodFn (α := α) Try.prog 10 (byShape S10.sh (callS S10 spec_l04Normal n)) := good_of Try.func10 (by kernel_rfl) (by kernel_rfl) (by kernel_rfl) eqs_ok (fun n => h10_g spec_l04Shape spec_l04Before spec_l04Normal_l3 n) (by delta h10_b spec_l04Normal; rfl) (allC h19_good (allC h20_good allN)) (allC (loop_fine (by kernel_rfl) (fun n => by delta h10_b3; funext _ _ _ _ _ _ _ _ _ _ _ _ _ _ _; exact (spec_l04Normal_l3.eq_2 ..).symm) (fun n => h10_g3 spec_l04Shape spec_l04Before spec_l04Normal_l3 n)) allN)

/-! loop.example/g01297/spec.TrianglesOfArea -/
def h4_t9 : Tpl := ⟨(.int .i64 :: (.any :: (.any :: (.any :: (.sl 704 :: (.int .i64 :: (.int .i64 :: (anyN 37 [])))))))), [(704, .rows 2 30 .tr)], [], false⟩
def h4_p9 : PcS := loopS [.int, .int, .int, .rows .tr] [2]
def h4_t5 : Tpl := ⟨(.int .i64 :: (.any :: (.any :: (.any :: (.sl 704 :: (.int .i64 :: (anyN 38 []))))))), [(704, .rows 2 30 .tr)], [], false⟩
def h4_p5 : PcS := loopS [.int, .int, .rows .tr] [0]
abbrev h4_x {α : Type} (F0 : T10 α) (F1 : T11 α) (F2 : T12 α) (G9 : T13 α) (G5 : T14 α) : Nat → Ctx α := ctxS M eqs jt0 [⟨9, S0, F0⟩, ⟨11, S1, F1⟩, ⟨10, S10, F2⟩] [lpT 9 h4_t9 h4_p9 R5 G9, lpT 5 h4_t5 h4_p5 R5 G5]
def h4_b9 {α : Type} (F1 : T11 α) (F2 : T12 α) (G9 : T13 α) (k : Nat) (n_2 : Int) (length1 : Int) (x : Int) (out1 : List (Int × Int × Int)) (b2 : Int → Int → Int → (List (Int × Int × Int)) → Option α) (r0 : Int → Option α) (r1 : (List (Int × Int × Int)) → Int → Option α) : Option α :=
  bif decide (length1 = 0) then
    none
  else
  bif decide (x < (w64 (Int.tdiv n_2 length1))) then
    bif decide (length1 = 0) then
      none
    else
      F1 k length1 x (w64 (Int.tdiv n_2 length1)) fun v1 v2 v3 v4 v5 v6 =>
      F2 k v1 v2 v3 v4 v5 v6 fun v7 v8 v9 =>
      bif (decide (v7 = length1) && (decide (v8 = x) && decide (v9 = (w64 (Int.tdiv n_2 length1))))) then
        bif decide (((List.length out1) + 1) ≤ big) then
          G9 k n_2 length1 (w64 (x + 1)) (out1 ++ [(length1, x, (w64 (Int.tdiv n_2 length1)))]) b2 r0 r1
        else
          none
      else
        G9 k n_2 length1 (w64 (x + 1)) out1 b2 r0 r1
  else
    b2 n_2 length1 x out1
theorem h4_g9 {α : Type} (F0 : T10 α) (F1 : T11 α) (F2 : T12 α) (G9 : T13 α) (G5 : T14 α) (n : Nat) : GenL (α := α) Try.prog Try.f4 S11 (h4_x F0 F1 F2 G9 G5 n) 9 h4_t9 h4_p9 n G9 (h4_b9 F1 F2 G9) := by intro _ _ _ _ _ _; kernel_rfl
def h4_b5 {α : Type} (G9 : T13 α) (G5 : T14 α) (k : Nat) (n_1 : Int) (length : Int) (out : List (Int × Int × Int)) (b0 : Int → Int → (List (Int × Int × Int)) → Option α) (r0 : Int → Option α) (r1 : (List (Int × Int × Int)) → Int → Option α) : Option α :=
  bif decide (length ≤ n_1) then
    bif decide (length = 0) then
      none
    else
    bif (!decide ((Int.tmod n_1 length) = 0)) then
      G5 k n_1 (w64 (length + 1)) out b0 r0 r1
    else
      G9 k n_1 length 0 out
        (fun n_3 length2 _ out2 =>
          G5 k n_3 (w64 (length2 + 1)) out2 b0 r0 r1)
        r0 r1
  else
    b0 n_1 length out
theorem h4_g5 {α : Type} (F0 : T10 α) (F1 : T11 α) (F2 : T12 α) (G9 : T13 α) (G5 : T14 α) (n : Nat) : GenL (α := α) Try.prog Try.f4 S11 (h4_x F0 F1 F2 G9 G5 n) 5 h4_t5 h4_p5 n G5 (h4_b5 G9 G5) := by intro _ _ _ _ _; kernel_rfl
def h4_b {α : Type} (F0 : T10 α) (G5 : T14 α) (k : Nat) (n_ : Int) (r0 : Int → Option α) (r1 : (List (Int × Int × Int)) → Int → Option α) : Option α :=
  F0 k n_ 1 200 fun v =>
  bif (!v) then
    r0 2
  else
    G5 k n_ 1 []
      (fun _ _ out3 =>
        r1 out3 0)
      r0 r1
theorem h4_g {α : Type} (F0 : T10 α) (F1 : T11 α) (F2 : T12 α) (G9 : T13 α) (G5 : T14 α) (n : Nat) : GenF (α := α) Try.prog Try.f4 S11 (h4_x F0 F1 F2 G9 G5 n) n (h4_b F0 G5) := by intro _ _; kernel_rfl
theorem h4_good {α : Type} : ∀ n, GoodFn (α := α) Try.prog 4 (byShape S11.sh (callS S11 spec_TrianglesOfArea n)) := good_of Try.func4 (by kernel_rfl) (by kernel_rfl) (by kernel_rfl) eqs_ok (fun n => h4_g spec_l01In spec_l04Of spec_l04Normal spec_TrianglesOfArea_l9 spec_TrianglesOfArea_l5 n) (by delta h4_b spec_TrianglesOfArea; rfl) (allC h9_good (allC h11_good (allC h10_good allN))) (allC (loop_fine (by kernel_rfl) (fun n => by delta h4_b9; funext _ _ _ _ _ _ _; exact (spec_TrianglesOfArea_l9.eq_2 ..).symm) (fun n => h4_g9 spec_l01In spec_l04Of spec_l04Normal spec_TrianglesOfArea_l9 spec_TrianglesOfArea_l5 n)) (allC (loop_fine (by kernel_rfl) (fun n => by delta h4_b5; funext _ _ _ _ _ _; exact (spec_TrianglesOfArea_l5.eq_2 ..).symm) (fun n => h4_g5 spec_l01In spec_l04Of spec_l04Normal spec_TrianglesOfArea_l9 spec_TrianglesOfArea_l5 n)) allN))

/-! loop.example/g01297/impl.in -/
abbrev h12_x {α : Type}  : Nat → Ctx α := ctxS M eqs jt0 [] []
def h12_b {α : Type}  (_ : Nat) (n_ : Int) (low : Int) (high : Int) (r0 : Bool → Option α) : Option α :=
  bif decide (low ≤ n_) then
    r0 (decide (n_ ≤ high))
  else
    r0 false
theorem h12_g {α : Type}  (n : Nat) : GenF (α := α) Try.prog Try.f12 S0 (h12_x n) n (h12_b) := by intro _ _ _ _; kernel_rfl
theorem h12_good {α : Type} : ∀ n, GoodFn (α := α) Try.prog 12 (byShape S0.sh (callS S0 impl_in n)) := good_of Try.func12 (by kernel_rfl) (by kernel_rfl) (by kernel_rfl) eqs_ok (fun n => h12_g n) (by delta h12_b impl_in; rfl) allN allN

/-! (loop.example/g01297/impl.Shape).triangle -/
abbrev h13_x {α : Type}  : Nat → Ctx α := ctxS M eqs jt0 [] []
def h13_b {α : Type}  (_ : Nat) (x : Int) (x1 : Int) (x2 : Int) (r0 : Int → Int → Int → Int → Int → Int → Option α) : Option α :=
  r0 0 0 x 0 x1 x2
theorem h13_g {α : Type}  (n : Nat) : GenF (α := α) Try.prog Try.f13 S1 (h13_x n) n (h13_b) := by intro _ _ _ _; kernel_rfl
theorem h13_good {α : Type} : ∀ n, GoodFn (α := α) Try.prog 13 (byShape S1.sh (callS S1 impl_Shape_triangle n)) := good_of Try.func13 (by kernel_rfl) (by kernel_rfl) (by kernel_rfl) eqs_ok (fun n => h13_g n) (by delta h13_b impl_Shape_triangle; rfl) allN allN

/-! (loop.example/g01297/impl.Point).plus -/
abbrev h64_x {α : Type}  : Nat → Ctx α := ctxS M eqs jt0 [] []
def h64_b {α : Type}  (_ : Nat) (a : Int) (a1 : Int) (b_ : Int) (b_1 : Int) (k_ : Int) (r0 : Int → Int → Option α) : Option α :=
  r0 (w64 (a + (w64 (k_ * b_)))) (w64 (a1 + (w64 (k_ * b_1))))
theorem h64_g {α : Type}  (n : Nat) : GenF (α := α) Try.prog Try.f64 S2 (h64_x n) n (h64_b) := by intro _ _ _ _ _ _; kernel_rfl
theorem h64_good {α : Type} : ∀ n, GoodFn (α := α) Try.prog 64 (byShape S2.sh (callS S2 impl_Point_plus n)) := good_of Try.func64 (by kernel_rfl) (by kernel_rfl) (by kernel_rfl) eqs_ok (fun n => h64_g n) (by delta h64_b impl_Point_plus; rfl) allN allN

/-! (loop.example/g01297/impl.Point).less -/
abbrev h53_x {α : Type} (F0 : T2 α) : Nat → Ctx α := ctxS M eqs jt0 [⟨64, S2, F0⟩] []
def h53_b {α : Type} (F0 : T2 α) (k : Nat) (a : Int) (a1 : Int) (b_ : Int) (b_1 : Int) (r0 : Int → Int → Option α) : Option α :=
  F0 k a a1 b_ b_1 (-1) fun v v1 =>
  r0 v v1
theorem h53_g {α : Type} (F0 : T2 α) (n : Nat) : GenF (α := α) Try.prog Try.f53 S12 (h53_x F0 n) n (h53_b F0) := by intro _ _ _ _ _; kernel_rfl
theorem h53_good {α : Type} : ∀ n, GoodFn (α := α) Try.prog 53 (byShape S12.sh (callS S12 impl_Point_less n)) := good_of Try.func53 (by kernel_rfl) (by kernel_rfl) (by kernel_rfl) eqs_ok (fun n => h53_g impl_Point_plus n) (by delta h53_b impl_Point_less; rfl) (allC h64_good allN) allN

/-! (loop.example/g01297/impl.Triangle).side -/
abbrev h33_x {α : Type} (F0 : T15 α) : Nat → Ctx α := ctxS M eqs jt0 [⟨53, S12, F0⟩] []
def h33_b {α : Type} (F0 : T15 α) (k : Nat) (t : Int) (t1 : Int) (t2 : Int) (t3 : Int) (t4 : Int) (t5 : Int) (i : Int) (k_ : Int) (r0 : Int → Int → Option α) : Option α :=
  bif (decide (0 ≤ k_) && decide (k_ < 3)) then
    ([t, t1, t2, t3, t4, t5][(k_.toNat * 2)]?).bind fun e_ =>
    ([t, t1, t2, t3, t4, t5][((k_.toNat * 2) + 1)]?).bind fun e_1 =>
    bif (decide (0 ≤ i) && decide (i < 3)) then
      ([t, t1, t2, t3, t4, t5][(i.toNat * 2)]?).bind fun e_2 =>
      ([t, t1, t2, t3, t4, t5][((i.toNat * 2) + 1)]?).bind fun e_3 =>
      F0 k e_ e_1 e_2 e_3 fun v v1 =>
      r0 v v1
    else
      none
  else
    none
theorem h33_g {α : Type} (F0 : T15 α) (n : Nat) : GenF (α := α) Try.prog Try.f33 S13 (h33_x F0 n) n (h33_b F0) := by intro _ _ _ _ _ _ _ _ _; kernel_rfl
theorem h33_good {α : Type} : ∀ n, GoodFn (α := α) Try.prog 33 (byShape S13.sh (callS S13 impl_Triangle_side n)) := good_of Try.func33 (by kernel_rfl) (by kernel_rfl) (by kernel_rfl) eqs_ok (fun n => h33_g impl_Point_less n) (by delta h33_b impl_Triangle_side; rfl) (allC h53_good allN) allN

/-! loop.example/g01297/impl.size -/
abbrev h58_x {α : Type}  : Nat → Ctx α := ctxS M eqs jt0 [] []
def h58_b {α : Type}  (_ : Nat) (n_ : Int) (r0 : Int → Option α) : Option α :=
  r0 (max n_ (w64 (0 - n_)))
theorem h58_g {α : Type}  (n : Nat) : GenF (α := α) Try.prog Try.f58 S14 (h58_x n) n (h58_b) := by intro _ _; kernel_rfl
theorem h58_good {α : Type} : ∀ n, GoodFn (α := α) Try.prog 58 (byShape S14.sh (callS S14 impl_size n)) := good_of Try.func58 (by kernel_rfl) (by kernel_rfl) (by kernel_rfl) eqs_ok (fun n => h58_g n) (by delta h58_b impl_size; rfl) allN allN

/-! loop.example/g01297/impl.gcd -/
def h54_t1 : Tpl := ⟨(.int .i64 :: (.int .i64 :: (anyN 11 []))), [], [], false⟩
def h54_p1 : PcS := loopS [.int, .int] [0]
abbrev h54_x {α : Type} (F0 : T16 α) (G1 : T0 α) : Nat → Ctx α := ctxS M eqs jt0 [⟨58, S14, F0⟩] [lpT 1 h54_t1 h54_p1 R3 G1]
def h54_b1 {α : Type} (G1 : T0 α) (k : Nat) (a1 : Int) (b_1 : Int) (b0 : Int → Int → Option α) (r0 : Int → Option α) : Option α :=
  bif (!decide (b_1 = 0)) then
    bif decide (b_1 = 0) then
      none
    else
      G1 k b_1 (Int.tmod a1 b_1) b0 r0
  else
    b0 a1 b_1
theorem h54_g1 {α : Type} (F0 : T16 α) (G1 : T0 α) (n : Nat) : GenL (α := α) Try.prog Try.f54 S3 (h54_x F0 G1 n) 1 h54_t1 h54_p1 n G1 (h54_b1 G1) := by intro _ _ _ _; kernel_rfl
def h54_b {α : Type} (F0 : T16 α) (G1 : T0 α) (k : Nat) (a : Int) (b_ : Int) (r0 : Int → Option α) : Option α :=
  G1 k a b_
    (fun a2 _ =>
      F0 k a2 fun v =>
      r0 v)
    r0
theorem h54_g {α : Type} (F0 : T16 α) (G1 : T0 α) (n : Nat) : GenF (α := α) Try.prog Try.f54 S3 (h54_x F0 G1 n) n (h54_b F0 G1) := by intro _ _ _; kernel_rfl
theorem h54_good {α : Type} : ∀ n, GoodFn (α := α) Try.prog 54 (byShape S3.sh (callS S3 impl_gcd n)) := good_of Try.func54 (by kernel_rfl) (by kernel_rfl) (by kernel_rfl) eqs_ok (fun n => h54_g impl_size impl_gcd_l1 n) (by delta h54_b impl_gcd; rfl) (allC h58_good allN) (allC (loop_fine (by kernel_rfl) (fun n => by delta h54_b1; funext _ _ _ _; exact (impl_gcd_l1.eq_2 ..).symm) (fun n => h54_g1 impl_size impl_gcd_l1 n)) allN)

/-! (loop.example/g01297/impl.Point).length -/
abbrev h34_x {α : Type} (F0 : T1 α) : Nat → Ctx α := ctxS M eqs jt0 [⟨54, S3, F0⟩] []
def h34_b {α : Type} (F0 : T1 α) (k : Nat) (a : Int) (a1 : Int) (r0 : Int → Option α) : Option α :=
  F0 k a a1 fun v =>
  r0 v
theorem h34_g {α : Type} (F0 : T1 α) (n : Nat) : GenF (α := α) Try.prog Try.f34 S15 (h34_x F0 n) n (h34_b F0) := by intro _ _ _; kernel_rfl
theorem h34_good {α : Type} : ∀ n, GoodFn (α := α) Try.prog 34 (byShape S15.sh (callS S15 impl_Point_length n)) := good_of Try.func34 (by kernel_rfl) (by kernel_rfl) (by kernel_rfl) eqs_ok (fun n => h34_g impl_gcd n) (by delta h34_b impl_Point_length; rfl) (allC h54_good allN) allN

/-! loop.example/g01297/impl.det -/
abbrev h37_x {α : Type}  : Nat → Ctx α := ctxS M eqs jt0 [] []
def h37_b {α : Type}  (_ : Nat) (a : Int) (a1 : Int) (b_ : Int) (b_1 : Int) (r0 : Int → Option α) : Option α :=
  r0 (w64 ((w64 (a * b_1)) - (w64 (a1 * b_))))
theorem h37_g {α : Type}  (n : Nat) : GenF (α := α) Try.prog Try.f37 S5 (h37_x n) n (h37_b) := by intro _ _ _ _ _; kernel_rfl
theorem h37_good {α : Type} : ∀ n, GoodFn (α := α) Try.prog 37 (byShape S5.sh (callS S5 impl_det n)) := good_of Try.func37 (by kernel_rfl) (by kernel_rfl) (by kernel_rfl) eqs_ok (fun n => h37_g n) (by delta h37_b impl_det; rfl) allN allN

/-! loop.example/g01297/impl.area -/
abbrev h55_x {α : Type} (F0 : T15 α) (F1 : T3 α) (F2 : T16 α) : Nat → Ctx α := ctxS M eqs jt0 [⟨53, S12, F0⟩, ⟨37, S5, F1⟩, ⟨58, S14, F2⟩] []
def h55_b {α : Type} (F0 : T15 α) (F1 : T3 α) (F2 : T16 α) (k : Nat) (a : Int) (a1 : Int) (b_ : Int) (b_1 : Int) (c : Int) (c1 : Int) (r0 : Int → Option α) : Option α :=
  F0 k b_ b_1 a a1 fun v v1 =>
  F0 k c c1 a a1 fun v2 v3 =>
  F1 k v v1 v2 v3 fun v4 =>
  F2 k v4 fun v5 =>
  r0 v5
theorem h55_g {α : Type} (F0 : T15 α) (F1 : T3 α) (F2 : T16 α) (n : Nat) : GenF (α := α) Try.prog Try.f55 S6 (h55_x F0 F1 F2 n) n (h55_b F0 F1 F2) := by intro _ _ _ _ _ _ _; kernel_rfl
theorem h55_good {α : Type} : ∀ n, GoodFn (α := α) Try.prog 55 (byShape S6.sh (callS S6 impl_area n)) := good_of Try.func55 (by kernel_rfl) (by kernel_rfl) (by kernel_rfl) eqs_ok (fun n => h55_g impl_Point_less impl_det impl_size n) (by delta h55_b impl_area; rfl) (allC h53_good (allC h37_good (allC h58_good allN))) allN

/-! (loop.example/g01297/impl.Triangle).area -/
abbrev h35_x {α : Type} (F0 : T4 α) : Nat → Ctx α := ctxS M eqs jt0 [⟨55, S6, F0⟩] []
def h35_b {α : Type} (F0 : T4 α) (k : Nat) (t : Int) (t1 : Int) (t2 : Int) (t3 : Int) (t4 : Int) (t5 : Int) (r0 : Int → Option α) : Option α :=
  F0 k t t1 t2 t3 t4 t5 fun v =>
  r0 v
theorem h35_g {α : Type} (F0 : T4 α) (n : Nat) : GenF (α := α) Try.prog Try.f35 S7 (h35_x F0 n) n (h35_b F0) := by intro _ _ _ _ _ _ _; kernel_rfl
theorem h35_good {α : Type} : ∀ n, GoodFn (α := α) Try.prog 35 (byShape S7.sh (callS S7 impl_Triangle_area n)) := good_of Try.func35 (by kernel_rfl) (by kernel_rfl) (by kernel_rfl) eqs_ok (fun n => h35_g impl_area n) (by delta h35_b impl_Triangle_area; rfl) (allC h55_good allN) allN

/-! (loop.example/g01297/impl.Point).primitive -/
abbrev h38_x {α : Type} (F0 : T1 α) : Nat → Ctx α := ctxS M eqs jt0 [⟨34, S15, F0⟩] []
def h38_b {α : Type} (F0 : T1 α) (k : Nat) (a : Int) (a1 : Int) (r0 : Int → Int → Option α) : Option α :=
  F0 k a a1 fun v =>
  bif decide (v = 0) then
    none
  else
  bif decide (v = 0) then
    none
  else
    r0 (w64 (Int.tdiv a v)) (w64 (Int.tdiv a1 v))
theorem h38_g {α : Type} (F0 : T1 α) (n : Nat) : GenF (α := α) Try.prog Try.f38 S4 (h38_x F0 n) n (h38_b F0) := by intro _ _ _; kernel_rfl
theorem h38_good {α : Type} : ∀ n, GoodFn (α := α) Try.prog 38 (byShape S4.sh (callS S4 impl_Point_primitive n)) := good_of Try.func38 (by kernel_rfl) (by kernel_rfl) (by kernel_rfl) eqs_ok (fun n => h38_g impl_Point_length n) (by delta h38_b impl_Point_primitive; rfl) (allC h34_good allN) allN

/-! loop.example/g01297/impl.floor -/
abbrev h56_x {α : Type}  : Nat → Ctx α := ctxS M eqs jt0 [] []
def h56_b {α : Type}  (_ : Nat) (a : Int) (b_ : Int) (r0 : Int → Option α) : Option α :=
  bif decide (b_ = 0) then
    none
  else
  bif decide (b_ = 0) then
    none
  else
  bif (!decide ((Int.tmod a b_) = 0)) then
    bif (!(decide (a < 0) == decide (b_ < 0))) then
      r0 (w64 ((w64 (Int.tdiv a b_)) - 1))
    else
      r0 (w64 (Int.tdiv a b_))
  else
    r0 (w64 (Int.tdiv a b_))
theorem h56_g {α : Type}  (n : Nat) : GenF (α := α) Try.prog Try.f56 S3 (h56_x n) n (h56_b) := by intro _ _ _; kernel_rfl
theorem h56_good {α : Type} : ∀ n, GoodFn (α := α) Try.prog 56 (byShape S3.sh (callS S3 impl_floor n)) := good_of Try.func56 (by kernel_rfl) (by kernel_rfl) (by kernel_rfl) eqs_ok (fun n => h56_g n) (by delta h56_b impl_floor; rfl) allN allN

/-! loop.example/g01297/impl.mod -/
abbrev h36_x {α : Type} (F0 : T1 α) : Nat → Ctx α := ctxS M eqs jt0 [⟨56, S3, F0⟩] []
def h36_b {α : Type} (F0 : T1 α) (k : Nat) (a : Int) (b_ : Int) (r0 : Int → Option α) : Option α :=
  F0 k a b_ fun v =>
  r0 (w64 (a - (w64 (b_ * v))))
theorem h36_g {α : Type} (F0 : T1 α) (n : Nat) : GenF (α := α) Try.prog Try.f36 S3 (h36_x F0 n) n (h36_b F0) := by intro _ _ _; kernel_rfl
theorem h36_good {α : Type} : ∀ n, GoodFn (α := α) Try.prog 36 (byShape S3.sh (callS S3 impl_mod n)) := good_of Try.func36 (by kernel_rfl) (by kernel_rfl) (by kernel_rfl) eqs_ok (fun n => h36_g impl_floor n) (by delta h36_b impl_mod; rfl) (allC h56_good allN) allN

/-! loop.example/g01297/impl.bezout -/
def h57_t2 : Tpl := ⟨(.any :: (.int .i64 :: (.any :: (.any :: (.any :: (.int .i64 :: (.int .i64 :: (.int .i64 :: (.int .i64 :: (anyN 25 [])))))))))), [], [], false⟩
def h57_p2 : PcS := loopS [.int, .int, .int, .int, .int] [0]
abbrev h57_x {α : Type} (F0 : T1 α) (G2 : T17 α) : Nat → Ctx α := ctxS M eqs jt0 [⟨36, S3, F0⟩] [lpT 2 h57_t2 h57_p2 R3 G2]
def h57_b2 {α : Type} (G2 : T17 α) (k : Nat) (m1 : Int) (r_ : Int) (s : Int) (x : Int) (y : Int) (b0 : Int → Int → Int → Int → Int → Option α) (r0 : Int → Option α) : Option α :=
  bif (!decide (s = 0)) then
    bif decide (s = 0) then
      none
    else
      G2 k m1 s (w64 (r_ - (w64 ((w64 (Int.tdiv r_ s)) * s)))) y (w64 (x - (w64 ((w64 (Int.tdiv r_ s)) * y)))) b0 r0
  else
    b0 m1 r_ s x y
theorem h57_g2 {α : Type} (F0 : T1 α) (G2 : T17 α) (n : Nat) : GenL (α := α) Try.prog Try.f57 S3 (h57_x F0 G2 n) 2 h57_t2 h57_p2 n G2 (h57_b2 G2) := by intro _ _ _ _ _ _ _; kernel_rfl
def h57_b {α : Type} (F0 : T1 α) (G2 : T17 α) (k : Nat) (a : Int) (m : Int) (r0 : Int → Option α) : Option α :=
  F0 k a m fun v =>
  G2 k m v m 1 0
    (fun m2 _ _ x1 _ =>
      F0 k x1 m2 fun v1 =>
      r0 v1)
    r0
theorem h57_g {α : Type} (F0 : T1 α) (G2 : T17 α) (n : Nat) : GenF (α := α) Try.prog Try.f57 S3 (h57_x F0 G2 n) n (h57_b F0 G2) := by intro _ _ _; kernel_rfl
theorem h57_good {α : Type} : ∀ n, GoodFn (α := α) Try.prog 57 (byShape S3.sh (callS S3 impl_bezout n)) := good_of Try.func57 (by kernel_rfl) (by kernel_rfl) (by kernel_rfl) eqs_ok (fun n => h57_g impl_mod impl_bezout_l2 n) (by delta h57_b impl_bezout; rfl) (allC h36_good allN) (allC (loop_fine (by kernel_rfl) (fun n => by delta h57_b2; funext _ _ _ _ _ _ _; exact (impl_bezout_l2.eq_2 ..).symm) (fun n => h57_g2 impl_mod impl_bezout_l2 n)) allN)

/-! (loop.example/g01297/impl.Point).mate -/
abbrev h39_x {α : Type} (F0 : T16 α) (F1 : T1 α) (F2 : T1 α) : Nat → Ctx α := ctxS M eqs jt0 [⟨58, S14, F0⟩, ⟨57, S3, F1⟩, ⟨36, S3, F2⟩] []
def h39_b {α : Type} (F0 : T16 α) (F1 : T1 α) (F2 : T1 α) (k : Nat) (a : Int) (a1 : Int) (r0 : Int → Int → Option α) : Option α :=
  bif decide (a = 0) then
    r0 (w64 (0 - a1)) 0
  else
    F0 k a fun v =>
    F1 k a1 v fun v1 =>
    F0 k a fun v2 =>
    F2 k (w64 (0 - v1)) v2 fun v3 =>
    bif decide (a = 0) then
      none
    else
      r0 v3 (w64 (Int.tdiv (w64 (1 + (w64 (a1 * v3)))) a))
theorem h39_g {α : Type} (F0 : T16 α) (F1 : T1 α) (F2 : T1 α) (n : Nat) : GenF (α := α) Try.prog Try.f39 S4 (h39_x F0 F1 F2 n) n (h39_b F0 F1 F2) := by intro _ _ _; kernel_rfl
theorem h39_good {α : Type} : ∀ n, GoodFn (α := α) Try.prog 39 (byShape S4.sh (callS S4 impl_Point_mate n)) := good_of Try.func39 (by kernel_rfl) (by kernel_rfl) (by kernel_rfl) eqs_ok (fun n => h39_g impl_size impl_bezout impl_mod n) (by delta h39_b impl_Point_mate; rfl) (allC h58_good (allC h57_good (allC h36_good allN))) allN

/-! (loop.example/g01297/impl.Triangle).shape -/
abbrev h21_x {α : Type} (F0 : T18 α) (F1 : T1 α) (F2 : T4 α) (F3 : T6 α) (F4 : T6 α) (F5 : T3 α) (F6 : T1 α) : Nat → Ctx α := ctxS M eqs jt0 [⟨33, S13, F0⟩, ⟨34, S15, F1⟩, ⟨35, S7, F2⟩, ⟨38, S4, F3⟩, ⟨39, S4, F4⟩, ⟨37, S5, F5⟩, ⟨36, S3, F6⟩] []
def h21_b {α : Type} (F0 : T18 α) (F1 : T1 α) (F2 : T4 α) (F3 : T6 α) (F4 : T6 α) (F5 : T3 α) (F6 : T1 α) (k : Nat) (t : Int) (t1 : Int) (t2 : Int) (t3 : Int) (t4 : Int) (t5 : Int) (i : Int) (j : Int) (r0 : Int → Int → Int → Option α) : Option α :=
  F0 k t t1 t2 t3 t4 t5 i j fun v v1 =>
  F0 k t t1 t2 t3 t4 t5 i (w64 ((w64 (3 - i)) - j)) fun v2 v3 =>
  F1 k v v1 fun v4 =>
  F2 k t t1 t2 t3 t4 t5 fun v5 =>
  bif decide (v4 = 0) then
    none
  else
    F3 k v v1 fun v6 v7 =>
    F4 k v6 v7 fun v8 v9 =>
    F5 k v2 v3 v8 v9 fun v10 =>
    F6 k v10 (w64 (Int.tdiv v5 v4)) fun v11 =>
    r0 v4 v11 (w64 (Int.tdiv v5 v4))
theorem h21_g {α : Type} (F0 : T18 α) (F1 : T1 α) (F2 : T4 α) (F3 : T6 α) (F4 : T6 α) (F5 : T3 α) (F6 : T1 α) (n : Nat) : GenF (α := α) Try.prog Try.f21 S8 (h21_x F0 F1 F2 F3 F4 F5 F6 n) n (h21_b F0 F1 F2 F3 F4 F5 F6) := by intro _ _ _ _ _ _ _ _ _; kernel_rfl
theorem h21_good {α : Type} : ∀ n, GoodFn (α := α) Try.prog 21 (byShape S8.sh (callS S8 impl_Triangle_shape n)) := good_of Try.func21 (by kernel_rfl) (by kernel_rfl) (by kernel_rfl) eqs_ok (fun n => h21_g impl_Triangle_side impl_Point_length impl_Triangle_area impl_Point_primitive impl_Point_mate impl_det impl_mod n) (by delta h21_b impl_Triangle_shape; rfl) (allC h33_good (allC h34_good (allC h35_good (allC h38_good (allC h39_good (allC h37_good (allC h36_good allN))))))) allN

/-! cmp.isNaN[int64] -/
abbrev h50_x {α : Type}  : Nat → Ctx α := ctxS M eqs jt0 [] []
def h50_b {α : Type}  (_ : Nat) (x : Int) (r0 : Bool → Option α) : Option α :=
  r0 (!decide (x = x))
theorem h50_g {α : Type}  (n : Nat) : GenF (α := α) Try.prog Try.f50 S16 (h50_x n) n (h50_b) := by intro _ _; kernel_rfl
theorem h50_good {α : Type} : ∀ n, GoodFn (α := α) Try.prog 50 (byShape S16.sh (callS S16 cmp_isNaN_int64 n)) := good_of Try.func50 (by kernel_rfl) (by kernel_rfl) (by kernel_rfl) eqs_ok (fun n => h50_g n) (by delta h50_b cmp_isNaN_int64; rfl) allN allN

/-! cmp.Compare[int64] -/
abbrev h25_x {α : Type} (F0 : T19 α) : Nat → Ctx α := ctxS M eqs jt0 [⟨50, S16, F0⟩] []
def h25_b {α : Type} (F0 : T19 α) (k : Nat) (x : Int) (y : Int) (r0 : Int → Option α) : Option α :=
  F0 k x fun v =>
  F0 k y fun v1 =>
  bif v then
    bif v1 then
      r0 0
    else
      r0 (-1)
  else
  bif v1 then
    r0 1
  else
  bif decide (x < y) then
    r0 (-1)
  else
  bif decide (y < x) then
    r0 1
  else
    r0 0
theorem h25_g {α : Type} (F0 : T19 α) (n : Nat) : GenF (α := α) Try.prog Try.f25 S3 (h25_x F0 n) n (h25_b F0) := by intro _ _ _; kernel_rfl
theorem h25_good {α : Type} : ∀ n, GoodFn (α := α) Try.prog 25 (byShape S3.sh (callS S3 cmp_Compare_int64 n)) := good_of Try.func25 (by kernel_rfl) (by kernel_rfl) (by kernel_rfl) eqs_ok (fun n => h25_g cmp_isNaN_int64 n) (by delta h25_b cmp_Compare_int64; rfl) (allC h50_good allN) allN

/-! cmp.Or[int] -/
def h24_t3 : Tpl := ⟨(.any :: (.any :: (.any :: (.int .i64 :: (.any :: (.any :: (.sl 0 :: (.int .i64 :: (.int .i64 :: (anyN 9 [])))))))))), [(0, .rows 0 3 (.int .i64))], [], false⟩
def h24_p3 : PcS := loopS [.int, .int, .int, .rows (.int .i64)] [0]
abbrev h24_x {α : Type} (G3 : T20 α) : Nat → Ctx α := ctxS M eqs jt0 [] [lpT 3 h24_t3 h24_p3 R3 G3]
def h24_b3 {α : Type} (G3 : T20 α) (k : Nat) (zero : Int) (x : Int) (x1 : Int) (x2 : List Int) (b0 : Int → Int → Int → List Int → Option α) (r0 : Int → Option α) : Option α :=
  bif decide (x1 < x) then
    bif (decide (0 ≤ x1) && decide (x1 < (((List.length x2) : Nat) : Int))) then
      (x2[x1.toNat]?).bind fun e_ =>
      bif (!decide (e_ = zero)) then
        r0 e_
      else
        G3 k zero x (w64 (x1 + 1)) x2 b0 r0
    else
      none
  else
    b0 zero x x1 x2
theorem h24_g3 {α : Type} (G3 : T20 α) (n : Nat) : GenL (α := α) Try.prog Try.f24 S17 (h24_x G3 n) 3 h24_t3 h24_p3 n G3 (h24_b3 G3) := by intro _ _ _ _ _ _; kernel_rfl
def h24_b {α : Type} (G3 : T20 α) (k : Nat) (vals : List Int) (r0 : Int → Option α) : Option α :=
  G3 k 0 (((List.length vals) : Nat) : Int) 0 vals
    (fun zero1 _ _ _ =>
      r0 zero1)
    r0
theorem h24_g {α : Type} (G3 : T20 α) (n : Nat) : GenF (α := α) Try.prog Try.f24 S17 (h24_x G3 n) n (h24_b G3) := by intro _ _; kernel_rfl
theorem h24_good {α : Type} : ∀ n, GoodFn (α := α) Try.prog 24 (byShape S17.sh (callS S17 cmp_Or_int n)) := good_of Try.func24 (by kernel_rfl) (by kernel_rfl) (by kernel_rfl) eqs_ok (fun n => h24_g cmp_Or_int_l3 n) (by delta h24_b cmp_Or_int; rfl) allN (allC (loop_fine (by kernel_rfl) (fun n => by delta h24_b3; funext _ _ _ _ _ _; exact (cmp_Or_int_l3.eq_2 ..).symm) (fun n => h24_g3 cmp_Or_int_l3 n)) allN)

/-! loop.example/g01297/impl.shapeOrder -/
abbrev h16_x {α : Type} (F0 : T1 α) (F1 : T21 α) : Nat → Ctx α := ctxS M eqs jt0 [⟨25, S3, F0⟩, ⟨24, S17, F1⟩] []
def h16_b {α : Type} (F0 : T1 α) (F1 : T21 α) (k : Nat) (a : Int) (a1 : Int) (a2 : Int) (b_ : Int) (b_1 : Int) (b_2 : Int) (r0 : Int → Option α) : Option α :=
  F0 k a b_ fun v =>
  F0 k a1 b_1 fun v1 =>
  F0 k a2 b_2 fun v2 =>
  F1 k [v, v1, v2] fun v3 =>
  r0 v3
theorem h16_g {α : Type} (F0 : T1 α) (F1 : T21 α) (n : Nat) : GenF (α := α) Try.prog Try.f16 S18 (h16_x F0 F1 n) n (h16_b F0 F1) := by intro _ _ _ _ _ _ _; kernel_rfl
theorem h16_good {α : Type} : ∀ n, GoodFn (α := α) Try.prog 16 (byShape S18.sh (callS S18 impl_shapeOrder n)) := good_of Try.func16 (by kernel_rfl) (by kernel_rfl) (by kernel_rfl) eqs_ok (fun n => h16_g cmp_Compare_int64 cmp_Or_int n) (by delta h16_b impl_shapeOrder; rfl) (allC h25_good (allC h24_good allN)) allN

/-! (loop.example/g01297/impl.Triangle).normal -/
def h14_t3 : Tpl := ⟨(.any :: (.ptr 64 0 0 :: (.ptr 128 0 0 :: (.ptr 192 0 0 :: (anyN 4 (.int .i64 :: (anyN 24 []))))))), [(64, .ints 2 35 .i64 6), (128, .ints 2 30 .i64 3), (192, .ints 2 30 .i64 3)], [], false⟩
def h14_p3 : PcS := loopS [.int, .int, .int, .int, .int, .int, .int, .int, .int, .int, .int, .int, .int] [0]
abbrev h14_x {α : Type} (F0 : T7 α) (F1 : T4 α) (G3 : T9 α) : Nat → Ctx α := ctxS M eqs jt0 [⟨21, S8, F0⟩, ⟨16, S18, F1⟩] [lpT 3 h14_t3 h14_p3 R4 G3]
def h14_b3 {α : Type} (F0 : T7 α) (F1 : T4 α) (G3 : T9 α) (k : Nat) (x : Int) (t6 : Int) (t7 : Int) (t8 : Int) (t9 : Int) (t10 : Int) (t11 : Int) (x1 : Int) (x2 : Int) (x3 : Int) (out : Int) (out1 : Int) (out2 : Int) (b0 : Int → Int → Int → Int → Int → Int → Int → Int → Int → Int → Int → Int → Int → Option α) (r0 : Int → Int → Int → Option α) : Option α :=
  bif decide (x < 3) then
    bif (!decide (x = 0)) then
      F0 k t6 t7 t8 t9 t10 t11 x 0 fun v3 v4 v5 =>
      F1 k v3 v4 v5 out out1 out2 fun v6 =>
      bif decide (v6 < 0) then
        F0 k t6 t7 t8 t9 t10 t11 x 0 fun v7 v8 v9 =>
        bif (!decide (x = 1)) then
          F0 k t6 t7 t8 t9 t10 t11 x 1 fun v10 v11 v12 =>
          F1 k v10 v11 v12 v7 v8 v9 fun v13 =>
          bif decide (v13 < 0) then
            F0 k t6 t7 t8 t9 t10 t11 x 1 fun v14 v15 v16 =>
            bif (!decide (x = 2)) then
              F0 k t6 t7 t8 t9 t10 t11 x 2 fun v17 v18 v19 =>
              F1 k v17 v18 v19 v14 v15 v16 fun v20 =>
              bif decide (v20 < 0) then
                F0 k t6 t7 t8 t9 t10 t11 x 2 fun v21 v22 v23 =>
                G3 k (w64 (x + 1)) t6 t7 t8 t9 t10 t11 x1 x2 x3 v21 v22 v23 b0 r0
              else
                G3 k (w64 (x + 1)) t6 t7 t8 t9 t10 t11 x1 x2 x3 v14 v15 v16 b0 r0
            else
              G3 k (w64 (x + 1)) t6 t7 t8 t9 t10 t11 x1 x2 x3 v14 v15 v16 b0 r0
          else
          bif (!decide (x = 2)) then
            F0 k t6 t7 t8 t9 t10 t11 x 2 fun v24 v25 v26 =>
            F1 k v24 v25 v26 v7 v8 v9 fun v27 =>
            bif decide (v27 < 0) then
              F0 k t6 t7 t8 t9 t10 t11 x 2 fun v28 v29 v30 =>
              G3 k (w64 (x + 1)) t6 t7 t8 t9 t10 t11 x1 x2 x3 v28 v29 v30 b0 r0
            else
              G3 k (w64 (x + 1)) t6 t7 t8 t9 t10 t11 x1 x2 x3 v7 v8 v9 b0 r0
          else
            G3 k (w64 (x + 1)) t6 t7 t8 t9 t10 t11 x1 x2 x3 v7 v8 v9 b0 r0
        else
        bif (!decide (x = 2)) then
          F0 k t6 t7 t8 t9 t10 t11 x 2 fun v31 v32 v33 =>
          F1 k v31 v32 v33 v7 v8 v9 fun v34 =>
          bif decide (v34 < 0) then
            F0 k t6 t7 t8 t9 t10 t11 x 2 fun v35 v36 v37 =>
            G3 k (w64 (x + 1)) t6 t7 t8 t9 t10 t11 x1 x2 x3 v35 v36 v37 b0 r0
          else
            G3 k (w64 (x + 1)) t6 t7 t8 t9 t10 t11 x1 x2 x3 v7 v8 v9 b0 r0
        else
          G3 k (w64 (x + 1)) t6 t7 t8 t9 t10 t11 x1 x2 x3 v7 v8 v9 b0 r0
      else
      bif (!decide (x = 1)) then
        F0 k t6 t7 t8 t9 t10 t11 x 1 fun v38 v39 v40 =>
        F1 k v38 v39 v40 out out1 out2 fun v41 =>
        bif decide (v41 < 0) then
          F0 k t6 t7 t8 t9 t10 t11 x 1 fun v42 v43 v44 =>
          bif (!decide (x = 2)) then
            F0 k t6 t7 t8 t9 t10 t11 x 2 fun v45 v46 v47 =>
            F1 k v45 v46 v47 v42 v43 v44 fun v48 =>
            bif decide (v48 < 0) then
              F0 k t6 t7 t8 t9 t10 t11 x 2 fun v49 v50 v51 =>
              G3 k (w64 (x + 1)) t6 t7 t8 t9 t10 t11 x1 x2 x3 v49 v50 v51 b0 r0
            else
              G3 k (w64 (x + 1)) t6 t7 t8 t9 t10 t11 x1 x2 x3 v42 v43 v44 b0 r0
          else
            G3 k (w64 (x + 1)) t6 t7 t8 t9 t10 t11 x1 x2 x3 v42 v43 v44 b0 r0
        else
        bif (!decide (x = 2)) then
          F0 k t6 t7 t8 t9 t10 t11 x 2 fun v52 v53 v54 =>
          F1 k v52 v53 v54 out out1 out2 fun v55 =>
          bif decide (v55 < 0) then
            F0 k t6 t7 t8 t9 t10 t11 x 2 fun v56 v57 v58 =>
            G3 k (w64 (x + 1)) t6 t7 t8 t9 t10 t11 x1 x2 x3 v56 v57 v58 b0 r0
          else
            G3 k (w64 (x + 1)) t6 t7 t8 t9 t10 t11 x1 x2 x3 out out1 out2 b0 r0
        else
          G3 k (w64 (x + 1)) t6 t7 t8 t9 t10 t11 x1 x2 x3 out out1 out2 b0 r0
      else
      bif (!decide (x = 2)) then
        F0 k t6 t7 t8 t9 t10 t11 x 2 fun v59 v60 v61 =>
        F1 k v59 v60 v61 out out1 out2 fun v62 =>
        bif decide (v62 < 0) then
          F0 k t6 t7 t8 t9 t10 t11 x 2 fun v63 v64 v65 =>
          G3 k (w64 (x + 1)) t6 t7 t8 t9 t10 t11 x1 x2 x3 v63 v64 v65 b0 r0
        else
          G3 k (w64 (x + 1)) t6 t7 t8 t9 t10 t11 x1 x2 x3 out out1 out2 b0 r0
      else
        G3 k (w64 (x + 1)) t6 t7 t8 t9 t10 t11 x1 x2 x3 out out1 out2 b0 r0
    else
    bif (!decide (x = 1)) then
      F0 k t6 t7 t8 t9 t10 t11 x 1 fun v66 v67 v68 =>
      F1 k v66 v67 v68 out out1 out2 fun v69 =>
      bif decide (v69 < 0) then
        F0 k t6 t7 t8 t9 t10 t11 x 1 fun v70 v71 v72 =>
        bif (!decide (x = 2)) then
          F0 k t6 t7 t8 t9 t10 t11 x 2 fun v73 v74 v75 =>
          F1 k v73 v74 v75 v70 v71 v72 fun v76 =>
          bif decide (v76 < 0) then
            F0 k t6 t7 t8 t9 t10 t11 x 2 fun v77 v78 v79 =>
            G3 k (w64 (x + 1)) t6 t7 t8 t9 t10 t11 x1 x2 x3 v77 v78 v79 b0 r0
          else
            G3 k (w64 (x + 1)) t6 t7 t8 t9 t10 t11 x1 x2 x3 v70 v71 v72 b0 r0
        else
          G3 k (w64 (x + 1)) t6 t7 t8 t9 t10 t11 x1 x2 x3 v70 v71 v72 b0 r0
      else
      bif (!decide (x = 2)) then
        F0 k t6 t7 t8 t9 t10 t11 x 2 fun v80 v81 v82 =>
        F1 k v80 v81 v82 out out1 out2 fun v83 =>
        bif decide (v83 < 0) then
          F0 k t6 t7 t8 t9 t10 t11 x 2 fun v84 v85 v86 =>
          G3 k (w64 (x + 1)) t6 t7 t8 t9 t10 t11 x1 x2 x3 v84 v85 v86 b0 r0
        else
          G3 k (w64 (x + 1)) t6 t7 t8 t9 t10 t11 x1 x2 x3 out out1 out2 b0 r0
      else
        G3 k (w64 (x + 1)) t6 t7 t8 t9 t10 t11 x1 x2 x3 out out1 out2 b0 r0
    else
    bif (!decide (x = 2)) then
      F0 k t6 t7 t8 t9 t10 t11 x 2 fun v87 v88 v89 =>
      F1 k v87 v88 v89 out out1 out2 fun v90 =>
      bif decide (v90 < 0) then
        F0 k t6 t7 t8 t9 t10 t11 x 2 fun v91 v92 v93 =>
        G3 k (w64 (x + 1)) t6 t7 t8 t9 t10 t11 x1 x2 x3 v91 v92 v93 b0 r0
      else
        G3 k (w64 (x + 1)) t6 t7 t8 t9 t10 t11 x1 x2 x3 out out1 out2 b0 r0
    else
      G3 k (w64 (x + 1)) t6 t7 t8 t9 t10 t11 x1 x2 x3 out out1 out2 b0 r0
  else
    b0 x t6 t7 t8 t9 t10 t11 x1 x2 x3 out out1 out2
theorem h14_g3 {α : Type} (F0 : T7 α) (F1 : T4 α) (G3 : T9 α) (n : Nat) : GenL (α := α) Try.prog Try.f14 S10 (h14_x F0 F1 G3 n) 3 h14_t3 h14_p3 n G3 (h14_b3 F0 F1 G3) := by intro _ _ _ _ _ _ _ _ _ _ _ _ _ _ _; kernel_rfl
def h14_b {α : Type} (F0 : T7 α) (G3 : T9 α) (k : Nat) (t : Int) (t1 : Int) (t2 : Int) (t3 : Int) (t4 : Int) (t5 : Int) (r0 : Int → Int → Int → Option α) : Option α :=
  F0 k t t1 t2 t3 t4 t5 0 1 fun v v1 v2 =>
  G3 k 0 t t1 t2 t3 t4 t5 0 0 0 v v1 v2
    (fun _ _ _ _ _ _ _ _ _ _ out3 out4 out5 =>
      r0 out3 out4 out5)
    r0
theorem h14_g {α : Type} (F0 : T7 α) (F1 : T4 α) (G3 : T9 α) (n : Nat) : GenF (α := α) Try.prog Try.f14 S10 (h14_x F0 F1 G3 n) n (h14_b F0 G3) := by intro _ _ _ _ _ _ _; kernel_rfl
theorem h14_good {α : Type} : ∀ n, GoodFn (α := α) Try.prog 14 (byShape S10.sh (callS S10 impl_Triangle_normal n)) := good_of Try.func14 (by kernel_rfl) (by kernel_rfl) (by kernel_rfl) eqs_ok (fun n => h14_g impl_Triangle_shape impl_shapeOrder impl_Triangle_normal_l3 n) (by delta h14_b impl_Triangle_normal; rfl) (allC h21_good (allC h16_good allN)) (allC (loop_fine (by kernel_rfl) (fun n => by delta h14_b3; funext _ _ _ _ _ _ _ _ _ _ _ _ _ _ _; exact (impl_Triangle_normal_l3.eq_2 ..).symm) (fun n => h14_g3 impl_Triangle_shape impl_shapeOrder impl_Triangle_normal_l3 n)) allN)

/-! slices.SortFunc[[]loop.example/g01297/impl.Shape,loop.example/g01297/impl.Shape] -/
def h15_lay_ren : Go.Shelf.Ren := ⟨fun | 6 => 15 | 15 => 23 | 14 => 22 | 28 => 48 | 29 => 49 | 20 => 40 | 21 => 41 | 22 => 42 | 23 => 43 | 24 => 44 | 25 => 45 | 26 => 46 | 27 => 47 | 46 => 59 | 47 => 60 | 48 => 61 | 49 => 62 | 50 => 63 | 57 => 65 | n => n, fun | 22 => 22 | 24 => 30 | 25 => 40 | 3 => 3 | 39 => 47 | 0 => 0 | 53 => 67 | 55 => 69 | 4 => 4 | 46 => 60 | 45 => 59 | 50 => 64 | 5 => 5 | 9 => 9 | 66 => 73 | 70 => 77 | 76 => 80 | 77 => 81 | n => n, fun | n => n⟩

theorem h15_lay : Go.Proofs.SlLaysF0.n6 Try.prog h15_lay_ren := {
  mixed := by kernel_rfl,
  f6 := ⟨Try.f15.name, by decide, Try.func15.trans (congrArg some (by kernel_rfl))⟩,
  f14 := ⟨Try.f22.name, by decide, Try.func22.trans (congrArg some (by kernel_rfl))⟩,
  f15 := Try.func23.trans (congrArg some (by kernel_rfl)),
  f20 := ⟨Try.f40.name, by decide, Try.func40.trans (congrArg some (by kernel_rfl))⟩,
  f21 := ⟨Try.f41.name, by decide, Try.func41.trans (congrArg some (by kernel_rfl))⟩,
  f22 := ⟨Try.f42.name, by decide, Try.func42.trans (congrArg some (by kernel_rfl))⟩,
  f23 := ⟨Try.f43.name, by decide, Try.func43.trans (congrArg some (by kernel_rfl))⟩,
  f24 := ⟨Try.f44.name, by decide, Try.func44.trans (congrArg some (by kernel_rfl))⟩,
  f25 := ⟨Try.f45.name, by decide, Try.func45.trans (congrArg some (by kernel_rfl))⟩,
  f26 := ⟨Try.f46.name, by decide, Try.func46.trans (congrArg some (by kernel_rfl))⟩,
  f27 := ⟨Try.f47.name, by decide, Try.func47.trans (congrArg some (by kernel_rfl))⟩,
  f28 := Try.func48.trans (congrArg some (by kernel_rfl)),
  f29 := Try.func49.trans (congrArg some (by kernel_rfl)),
  f46 := ⟨Try.f59.name, by decide, Try.func59.trans (congrArg some (by kernel_rfl))⟩,
  f47 := Try.func60.trans (congrArg some (by kernel_rfl)),
  f48 := Try.func61.trans (congrArg some (by kernel_rfl)),
  f49 := ⟨Try.f62.name, by decide, Try.func62.trans (congrArg some (by kernel_rfl))⟩,
  f50 := ⟨Try.f63.name, by decide, Try.func63.trans (congrArg some (by kernel_rfl))⟩,
  f57 := ⟨Try.f65.name, by decide, Try.func65.trans (congrArg some (by kernel_rfl))⟩,
  t0 := Try.underlying0,
  a0 := Try.isAgg0,
  z0 := Try.sizeOf0,
  v0 := Try.zeroValue0,
  t3 := Try.underlying3,
  a3 := Try.isAgg3,
  z3 := Try.sizeOf3,
  v3 := Try.zeroValue3,
  t4 := Try.underlying4,
  a4 := Try.isAgg4,
  z4 := Try.sizeOf4,
  v4 := Try.zeroValue4,
  t5 := Try.underlying5,
  a5 := Try.isAgg5,
  z5 := Try.sizeOf5,
  v5 := Try.zeroValue5,
  t9 := Try.underlying9,
  a9 := Try.isAgg9,
  z9 := Try.sizeOf9,
  v9 := Try.zeroValue9,
  t22 := Try.underlying22,
  a22 := Try.isAgg22,
  z22 := Try.sizeOf22,
  v22 := Try.zeroValue22,
  t25 := Try.underlying40,
  a25 := Try.isAgg40,
  z25 := Try.sizeOf40,
  v25 := Try.zeroValue40,
  t39 := Try.underlying47,
  a39 := Try.isAgg47,
  z39 := Try.sizeOf47,
  v39 := Try.zeroValue47,
  t45 := Try.underlying59,
  a45 := Try.isAgg59,
  z45 := Try.sizeOf59,
  v45 := Try.zeroValue59,
  t46 := Try.underlying60,
  a46 := Try.isAgg60,
  z46 := Try.sizeOf60,
  v46 := Try.zeroValue60,
  t50 := Try.underlying64,
  a50 := Try.isAgg64,
  z50 := Try.sizeOf64,
  v50 := Try.zeroValue64,
  t53 := Try.underlying67,
  a53 := Try.isAgg67,
  z53 := Try.sizeOf67,
  v53 := Try.zeroValue67,
  t55 := Try.underlying69,
  a55 := Try.isAgg69,
  z55 := Try.sizeOf69,
  v55 := Try.zeroValue69,
  t66 := Try.underlying73,
  a66 := Try.isAgg73,
  z66 := Try.sizeOf73,
  v66 := Try.zeroValue73,
  t70 := Try.underlying77,
  a70 := Try.isAgg77,
  z70 := Try.sizeOf77,
  v70 := Try.zeroValue77,
  t76 := Try.underlying80,
  a76 := Try.isAgg80,
  z76 := Try.sizeOf80,
  v76 := Try.zeroValue80,
  t77 := Try.underlying81,
  a77 := Try.isAgg81,
  z77 := Try.sizeOf81,
  v77 := Try.zeroValue81 }

theorem h15_good {α : Type} : ∀ n, GoodFn (α := α) Try.prog 15 (byShape S19.sh (callS S19 slices_SortFunc_impl_Shape_impl_Shape_1F_impl_shapeOrder n)) := sort_good (t := .tr) h15_lay rfl Try.isAgg30 Try.sizeOf30 (h16_good (α := Int)) (by intro _ _ _; kernel_rfl) (fun _ _ _ => rfl)

/-! slices.Compact[[]loop.example/g01297/impl.Shape,loop.example/g01297/impl.Shape] -/
def h17_t9 : Tpl := ⟨(.sl 0 :: (.any :: (.any :: (.int .i64 :: (.sub 0 :: (.int .i64 :: (anyN 55 []))))))), [(0, .rows 1 30 .tr)], [], false⟩
def h17_p9 : PcS := loopS [.int, .nat, .nat, .int, .rows .tr] [2]
def h17_t4 : Tpl := ⟨(.sl 0 :: (.any :: (.any :: (.int .i64 :: (anyN 57 []))))), [(0, .rows 1 30 .tr)], [], false⟩
def h17_p4 : PcS := loopS [.int, .rows .tr] [0]
abbrev h17_x {α : Type} (G9 : T22 α) (G4 : T23 α) : Nat → Ctx α := ctxS M eqs jt0 [] [lpT 9 h17_t9 h17_p9 R7 G9, lpT 4 h17_t4 h17_p4 R7 G4]
def h17_b9 {α : Type} (G9 : T22 α) (k : Nat) (k_1 : Int) (s2_ : Nat) (s2_1 : Nat) (k2_ : Int) (s2 : List (Int × Int × Int)) (b2 : Int → Nat → Nat → Int → (List (Int × Int × Int)) → Option α) (r0 : (List (Int × Int × Int)) → Option α) : Option α :=
  bif decide (k2_ < ((s2_1 : Nat) : Int)) then
    bif (decide (0 ≤ k2_) && decide (k2_ < ((s2_1 : Nat) : Int))) then
      (s2[(moved s2_ k2_.toNat 1)]?).bind fun e_2 =>
      bif (decide (0 ≤ (w64 (k2_ - 1))) && decide ((w64 (k2_ - 1)) < ((s2_1 : Nat) : Int))) then
        (s2[(moved s2_ ((w64 (k2_ - 1)).toNat) 1)]?).bind fun e_3 =>
        bif (!(decide (e_2.1 = e_3.1) && (decide (e_2.2.1 = e_3.2.1) && decide (e_2.2.2 = e_3.2.2)))) then
          bif (decide (0 ≤ k2_) && decide (k2_ < ((s2_1 : Nat) : Int))) then
            (s2[(moved s2_ k2_.toNat 1)]?).bind fun e_4 =>
            bif (decide (0 ≤ k_1) && decide (k_1 < (((List.length s2) : Nat) : Int))) then
              (s2[k_1.toNat]?).bind fun _ =>
              G9 k (w64 (k_1 + 1)) s2_ s2_1 (w64 (k2_ + 1)) (List.set s2 k_1.toNat (e_4.1, e_4.2.1, e_4.2.2)) b2 r0
            else
              none
          else
            none
        else
          G9 k k_1 s2_ s2_1 (w64 (k2_ + 1)) s2 b2 r0
      else
        none
    else
      none
  else
    b2 k_1 s2_ s2_1 k2_ s2
theorem h17_g9 {α : Type} (G9 : T22 α) (G4 : T23 α) (n : Nat) : GenL (α := α) Try.prog Try.f17 S20 (h17_x G9 G4 n) 9 h17_t9 h17_p9 n G9 (h17_b9 G9) := by intro _ _ _ _ _ _ _ _; kernel_rfl
def h17_b4 {α : Type} (G9 : T22 α) (G4 : T23 α) (k : Nat) (k_ : Int) (s1 : List (Int × Int × Int)) (b0 : Int → (List (Int × Int × Int)) → Option α) (r0 : (List (Int × Int × Int)) → Option α) : Option α :=
  bif decide (k_ < (((List.length s1) : Nat) : Int)) then
    bif (decide (0 ≤ k_) && decide (k_ < (((List.length s1) : Nat) : Int))) then
      (s1[k_.toNat]?).bind fun e_ =>
      bif (decide (0 ≤ (w64 (k_ - 1))) && decide ((w64 (k_ - 1)) < (((List.length s1) : Nat) : Int))) then
        (s1[(w64 (k_ - 1)).toNat]?).bind fun e_1 =>
        bif (decide (e_.1 = e_1.1) && (decide (e_.2.1 = e_1.2.1) && decide (e_.2.2 = e_1.2.2))) then
          bif (decide (0 ≤ k_) && decide (k_ ≤ (((List.length s1) : Nat) : Int))) then
            G9 k k_ k_.toNat ((List.length s1) - k_.toNat) 1 s1
              (fun k_2 _ _ _ s3 =>
                bif (decide (0 ≤ k_2) && decide (k_2 ≤ (((List.length s3) : Nat) : Int))) then
                  bif (decide (0 ≤ k_2) && decide (k_2 ≤ (((List.length (((List.take k_2.toNat s3) ++ (List.replicate ((List.length s3) - k_2.toNat) (0, 0, 0))) ++ (List.drop (k_2.toNat + ((List.length s3) - k_2.toNat)) s3))) : Nat) : Int))) then
                    r0 (List.take (k_2.toNat - 0) (((List.take k_2.toNat s3) ++ (List.replicate ((List.length s3) - k_2.toNat) (0, 0, 0))) ++ (List.drop (k_2.toNat + ((List.length s3) - k_2.toNat)) s3)))
                  else
                    none
                else
                  none)
              r0
          else
            none
        else
          G4 k (w64 (k_ + 1)) s1 b0 r0
      else
        none
    else
      none
  else
    b0 k_ s1
theorem h17_g4 {α : Type} (G9 : T22 α) (G4 : T23 α) (n : Nat) : GenL (α := α) Try.prog Try.f17 S20 (h17_x G9 G4 n) 4 h17_t4 h17_p4 n G4 (h17_b4 G9 G4) := by intro _ _ _ _ _; kernel_rfl
def h17_b {α : Type} (G4 : T23 α) (k : Nat) (s : List (Int × Int × Int)) (r0 : (List (Int × Int × Int)) → Option α) : Option α :=
  bif decide ((((List.length s) : Nat) : Int) < 2) then
    r0 s
  else
    G4 k 1 s
      (fun _ s4 =>
        r0 s4)
      r0
theorem h17_g {α : Type} (G9 : T22 α) (G4 : T23 α) (n : Nat) : GenF (α := α) Try.prog Try.f17 S20 (h17_x G9 G4 n) n (h17_b G4) := by intro _ _; kernel_rfl
theorem h17_good {α : Type} : ∀ n, GoodFn (α := α) Try.prog 17 (byShape S20.sh (callS S20 slices_Compact_impl_Shape_impl_Shape n)) := good_of Try.func17 (by kernel_rfl) (by kernel_rfl) (by kernel_rfl) eqs_ok (fun n => h17_g slices_Compact_impl_Shape_impl_Shape_l9 slices_Compact_impl_Shape_impl_Shape_l4 n) (by delta h17_b slices_Compact_impl_Shape_impl_Shape; rfl) allN (allC (loop_fine (by kernel_rfl) (fun n => by delta h17_b9; funext _ _ _ _ _ _ _; exact (slices_Compact_impl_Shape_impl_Shape_l9.eq_2 ..).symm) (fun n => h17_g9 slices_Compact_impl_Shape_impl_Shape_l9 slices_Compact_impl_Shape_impl_Shape_l4 n)) (allC (loop_fine (by kernel_rfl) (fun n => by delta h17_b4; funext _ _ _ _; exact (slices_Compact_impl_Shape_impl_Shape_l4.eq_2 ..).symm) (fun n => h17_g4 slices_Compact_impl_Shape_impl_Shape_l9 slices_Compact_impl_Shape_impl_Shape_l4 n)) allN))

/-! loop.example/g01297/impl.TrianglesOfArea -/
def h5_t9 : Tpl := ⟨(.int .i64 :: (.any :: (.any :: (.any :: (.sl 640 :: (.int .i64 :: (anyN 16 (.int .i64 :: (.int .i64 :: (anyN 18 [])))))))))), [(640, .rows 2 30 .tr)], [], false⟩
def h5_p9 : PcS := loopS [.int, .int, .int, .int, .rows .tr] [2]
def h5_t5 : Tpl := ⟨(.int .i64 :: (.any :: (.any :: (.any :: (.sl 640 :: (.int .i64 :: (anyN 36 []))))))), [(640, .rows 2 30 .tr)], [], false⟩
def h5_p5 : PcS := loopS [.int, .int, .rows .tr] [0]
abbrev h5_x {α : Type} (F0 : T10 α) (F1 : T11 α) (F2 : T12 α) (F3 : T24 α) (F4 : T24 α) (G9 : T25 α) (G5 : T14 α) : Nat → Ctx α := ctxS M eqs jt0 [⟨12, S0, F0⟩, ⟨13, S1, F1⟩, ⟨14, S10, F2⟩, ⟨15, S19, F3⟩, ⟨17, S20, F4⟩] [lpT 9 h5_t9 h5_p9 R5 G9, lpT 5 h5_t5 h5_p5 R5 G5]
def h5_b9 {α : Type} (F1 : T11 α) (F2 : T12 α) (G9 : T25 α) (k : Nat) (n_2 : Int) (long1 : Int) (x : Int) (x1 : Int) (out1 : List (Int × Int × Int)) (b2 : Int → Int → Int → Int → (List (Int × Int × Int)) → Option α) (r0 : Int → Option α) (r1 : (List (Int × Int × Int)) → Int → Option α) : Option α :=
  bif decide (x1 < x) then
    bif decide (long1 = 0) then
      none
    else
      F1 k long1 x1 (w64 (Int.tdiv n_2 long1)) fun v1 v2 v3 v4 v5 v6 =>
      F2 k v1 v2 v3 v4 v5 v6 fun v7 v8 v9 =>
      bif decide (((List.length out1) + 1) ≤ big) then
        G9 k n_2 long1 x (w64 (x1 + 1)) (out1 ++ [(v7, v8, v9)]) b2 r0 r1
      else
        none
  else
    b2 n_2 long1 x x1 out1
theorem h5_g9 {α : Type} (F0 : T10 α) (F1 : T11 α) (F2 : T12 α) (F3 : T24 α) (F4 : T24 α) (G9 : T25 α) (G5 : T14 α) (n : Nat) : GenL (α := α) Try.prog Try.f5 S11 (h5_x F0 F1 F2 F3 F4 G9 G5 n) 9 h5_t9 h5_p9 n G9 (h5_b9 F1 F2 G9) := by intro _ _ _ _ _ _ _; kernel_rfl
def h5_b5 {α : Type} (G9 : T25 α) (G5 : T14 α) (k : Nat) (n_1 : Int) (long : Int) (out : List (Int × Int × Int)) (b0 : Int → Int → (List (Int × Int × Int)) → Option α) (r0 : Int → Option α) (r1 : (List (Int × Int × Int)) → Int → Option α) : Option α :=
  bif decide (long ≤ n_1) then
    bif decide (long = 0) then
      none
    else
    bif (!decide ((Int.tmod n_1 long) = 0)) then
      G5 k n_1 (w64 (long + 1)) out b0 r0 r1
    else
    bif decide (long = 0) then
      none
    else
      G9 k n_1 long (w64 (Int.tdiv n_1 long)) 0 out
        (fun n_3 long2 _ _ out2 =>
          G5 k n_3 (w64 (long2 + 1)) out2 b0 r0 r1)
        r0 r1
  else
    b0 n_1 long out
theorem h5_g5 {α : Type} (F0 : T10 α) (F1 : T11 α) (F2 : T12 α) (F3 : T24 α) (F4 : T24 α) (G9 : T25 α) (G5 : T14 α) (n : Nat) : GenL (α := α) Try.prog Try.f5 S11 (h5_x F0 F1 F2 F3 F4 G9 G5 n) 5 h5_t5 h5_p5 n G5 (h5_b5 G9 G5) := by intro _ _ _ _ _; kernel_rfl
def h5_b {α : Type} (F0 : T10 α) (F3 : T24 α) (F4 : T24 α) (G5 : T14 α) (k : Nat) (n_ : Int) (r0 : Int → Option α) (r1 : (List (Int × Int × Int)) → Int → Option α) : Option α :=
  F0 k n_ 1 200 fun v =>
  bif (!v) then
    r0 2
  else
    G5 k n_ 1 []
      (fun _ _ out3 =>
        F3 k out3 fun v10 =>
        F4 k v10 fun v11 =>
        r1 v11 0)
      r0 r1
theorem h5_g {α : Type} (F0 : T10 α) (F1 : T11 α) (F2 : T12 α) (F3 : T24 α) (F4 : T24 α) (G9 : T25 α) (G5 : T14 α) (n : Nat) : GenF (α := α) Try.prog Try.f5 S11 (h5_x F0 F1 F2 F3 F4 G9 G5 n) n (h5_b F0 F3 F4 G5) := by intro _ _; kernel_rfl
theorem h5_good {α : Type} : ∀ n, GoodFn (α := α) Try.prog 5 (byShape S11.sh (callS S11 impl_TrianglesOfArea n)) := good_of Try.func5 (by kernel_rfl) (by kernel_rfl) (by kernel_rfl) eqs_ok (fun n => h5_g impl_in impl_Shape_triangle impl_Triangle_normal slices_SortFunc_impl_Shape_impl_Shape_1F_impl_shapeOrder slices_Compact_impl_Shape_impl_Shape impl_TrianglesOfArea_l9 impl_TrianglesOfArea_l5 n) (by delta h5_b impl_TrianglesOfArea; rfl) (allC h12_good (allC h13_good (allC h14_good (allC h15_good (allC h17_good allN))))) (allC (loop_fine (by kernel_rfl) (fun n => by delta h5_b9; funext _ _ _ _ _ _ _ _; exact (impl_TrianglesOfArea_l9.eq_2 ..).symm) (fun n => h5_g9 impl_in impl_Shape_triangle impl_Triangle_normal slices_SortFunc_impl_Shape_impl_Shape_1F_impl_shapeOrder slices_Compact_impl_Shape_impl_Shape impl_TrianglesOfArea_l9 impl_TrianglesOfArea_l5 n)) (allC (loop_fine (by kernel_rfl) (fun n => by delta h5_b5; funext _ _ _ _ _ _; exact (impl_TrianglesOfArea_l5.eq_2 ..).symm) (fun n => h5_g5 impl_in impl_Shape_triangle impl_Triangle_normal slices_SortFunc_impl_Shape_impl_Shape_1F_impl_shapeOrder slices_Compact_impl_Shape_impl_Shape impl_TrianglesOfArea_l9 impl_TrianglesOfArea_l5 n)) allN))

/-! loop.example/g01297/laws.eqShapeS -/
abbrev h6_x {α : Type}  : Nat → Ctx α := ctxS M eqs jt0 [] []
def h6_b {α : Type}  (_ : Nat) (r0 : Bool → Option α) : Option α :=
  r0 true
theorem h6_g {α : Type}  (n : Nat) : GenF (α := α) Try.prog Try.f6 S21 (h6_x n) n (h6_b) := by intro _; kernel_rfl
theorem h6_good {α : Type} : ∀ n, GoodFn (α := α) Try.prog 6 (byShape S21.sh (callS S21 laws_eqShapeS_0N_1N n)) := good_of Try.func6 (by kernel_rfl) (by kernel_rfl) (by kernel_rfl) eqs_ok (fun n => h6_g n) (by delta h6_b laws_eqShapeS_0N_1N; rfl) allN allN

/-! loop.example/g01297/laws.markShapeS -/
abbrev h7_x {α : Type}  : Nat → Ctx α := ctxS M eqs jt0 [] []
def h7_b {α : Type}  (_ : Nat) (k_ : Int) (r0 : Int → Option α) : Option α :=
  r0 k_
theorem h7_g {α : Type}  (n : Nat) : GenF (α := α) Try.prog Try.f7 S22 (h7_x n) n (h7_b) := by intro _ _; kernel_rfl
theorem h7_good {α : Type} : ∀ n, GoodFn (α := α) Try.prog 7 (byShape S22.sh (callS S22 laws_markShapeS_0N n)) := good_of Try.func7 (by kernel_rfl) (by kernel_rfl) (by kernel_rfl) eqs_ok (fun n => h7_g n) (by delta h7_b laws_markShapeS_0N; rfl) allN allN

/-! loop.example/g01297/laws.heldShapeS -/
abbrev h8_x {α : Type}  : Nat → Ctx α := ctxS M eqs jt0 [] []
def h8_b {α : Type}  (_ : Nat) (k_ : Int) (r0 : Int → Option α) : Option α :=
  r0 k_
theorem h8_g {α : Type}  (n : Nat) : GenF (α := α) Try.prog Try.f8 S22 (h8_x n) n (h8_b) := by intro _ _; kernel_rfl
theorem h8_good {α : Type} : ∀ n, GoodFn (α := α) Try.prog 8 (byShape S22.sh (callS S22 laws_heldShapeS_0N n)) := good_of Try.func8 (by kernel_rfl) (by kernel_rfl) (by kernel_rfl) eqs_ok (fun n => h8_g n) (by delta h8_b laws_heldShapeS_0N; rfl) allN allN

/-! loop.example/g01297/laws.eqShapeS -/
def h6a_t4 : Tpl := ⟨(.sl 0 :: (.nilsl :: (.any :: (.any :: (.any :: (.int .i64 :: (anyN 21 []))))))), [(0, .rows 0 30 .tr)], [], false⟩
def h6a_p4 : PcS := loopS [.int, .rows .tr] [0]
abbrev h6a_x {α : Type} (G4 : T26 α) : Nat → Ctx α := ctxS M eqs jt0 [] [lpT 4 h6a_t4 h6a_p4 R0 G4]
def h6a_b4 {α : Type}  (_ : Nat) (i : Int) (a1 : List (Int × Int × Int)) (b0 : Int → (List (Int × Int × Int)) → Option α) (_ : Bool → Option α) : Option α :=
  bif decide (i < (((List.length a1) : Nat) : Int)) then
    bif (decide (0 ≤ i) && decide (i < (((List.length a1) : Nat) : Int))) then
      (a1[i.toNat]?).bind fun _ =>
      none
    else
      none
  else
    b0 i a1
theorem h6a_g4 {α : Type} (G4 : T26 α) (n : Nat) : GenL (α := α) Try.prog Try.f6 S23 (h6a_x G4 n) 4 h6a_t4 h6a_p4 n G4 (h6a_b4) := by intro _ _ _ _; kernel_rfl
def h6a_b {α : Type} (G4 : T26 α) (k : Nat) (a : List (Int × Int × Int)) (r0 : Bool → Option α) : Option α :=
  bif (!decide ((((List.length a) : Nat) : Int) = 0)) then
    r0 false
  else
    G4 k 0 a
      (fun _ _ =>
        r0 true)
      r0
theorem h6a_g {α : Type} (G4 : T26 α) (n : Nat) : GenF (α := α) Try.prog Try.f6 S23 (h6a_x G4 n) n (h6a_b G4) := by intro _ _; kernel_rfl
theorem h6a_good {α : Type} : ∀ n, GoodFn (α := α) Try.prog 6 (byShape S23.sh (callS S23 laws_eqShapeS_1N n)) := good_of Try.func6 (by kernel_rfl) (by kernel_rfl) (by kernel_rfl) eqs_ok (fun n => h6a_g laws_eqShapeS_1N_l4 n) (by delta h6a_b laws_eqShapeS_1N; rfl) allN (allC (loop_fine (by kernel_rfl) (fun n => by delta h6a_b4; funext _ _ _ _; exact (laws_eqShapeS_1N_l4.eq_2 ..).symm) (fun n => h6a_g4 laws_eqShapeS_1N_l4 n)) allN)

/-! loop.example/g01297/laws.markShapeS -/
def h7a_t2 : Tpl := ⟨(.sl 0 :: (.int .i64 :: (.any :: (.any :: (.any :: (.int .i64 :: (anyN 28 []))))))), [(0, .rows 1 30 .tr)], [], false⟩
def h7a_p2 : PcS := loopS [.int, .int, .rows .tr] [0]
abbrev h7a_x {α : Type} (G2 : T27 α) : Nat → Ctx α := ctxS M eqs jt0 [] [lpT 2 h7a_t2 h7a_p2 R8 G2]
def h7a_b2 {α : Type} (G2 : T27 α) (k : Nat) (k_1 : Int) (i : Int) (a1 : List (Int × Int × Int)) (b0 : Int → Int → (List (Int × Int × Int)) → Option α) (r0 : Int → (List (Int × Int × Int)) → Option α) : Option α :=
  bif decide (i < (((List.length a1) : Nat) : Int)) then
    bif (decide (0 ≤ i) && decide (i < (((List.length a1) : Nat) : Int))) then
      (a1[i.toNat]?).bind fun e_ =>
      bif (decide (0 ≤ i) && decide (i < (((List.length (List.set a1 i.toNat (k_1, e_.2.1, e_.2.2))) : Nat) : Int))) then
        ((List.set a1 i.toNat (k_1, e_.2.1, e_.2.2))[i.toNat]?).bind fun e_1 =>
        bif (decide (0 ≤ i) && decide (i < (((List.length (List.set (List.set a1 i.toNat (k_1, e_.2.1, e_.2.2)) i.toNat (e_1.1, (w64 (k_1 + 1)), e_1.2.2))) : Nat) : Int))) then
          ((List.set (List.set a1 i.toNat (k_1, e_.2.1, e_.2.2)) i.toNat (e_1.1, (w64 (k_1 + 1)), e_1.2.2))[i.toNat]?).bind fun e_2 =>
          G2 k (w64 ((w64 ((w64 (k_1 + 1)) + 1)) + 1)) (w64 (i + 1)) (List.set (List.set (List.set a1 i.toNat (k_1, e_.2.1, e_.2.2)) i.toNat (e_1.1, (w64 (k_1 + 1)), e_1.2.2)) i.toNat (e_2.1, e_2.2.1, (w64 ((w64 (k_1 + 1)) + 1)))) b0 r0
        else
          none
      else
        none
    else
      none
  else
    b0 k_1 i a1
theorem h7a_g2 {α : Type} (G2 : T27 α) (n : Nat) : GenL (α := α) Try.prog Try.f7 S24 (h7a_x G2 n) 2 h7a_t2 h7a_p2 n G2 (h7a_b2 G2) := by intro _ _ _ _ _ _ _; kernel_rfl
def h7a_b {α : Type} (G2 : T27 α) (k : Nat) (a : List (Int × Int × Int)) (k_ : Int) (r0 : Int → (List (Int × Int × Int)) → Option α) : Option α :=
  G2 k k_ 0 a
    (fun k_2 _ a2 =>
      r0 k_2 a2)
    r0
theorem h7a_g {α : Type} (G2 : T27 α) (n : Nat) : GenF (α := α) Try.prog Try.f7 S24 (h7a_x G2 n) n (h7a_b G2) := by intro _ _ _; kernel_rfl
theorem h7a_good {α : Type} : ∀ n, GoodFn (α := α) Try.prog 7 (byShape S24.sh (callS S24 laws_markShapeS n)) := good_of Try.func7 (by kernel_rfl) (by kernel_rfl) (by kernel_rfl) eqs_ok (fun n => h7a_g laws_markShapeS_l2 n) (by delta h7a_b laws_markShapeS; rfl) allN (allC (loop_fine (by kernel_rfl) (fun n => by delta h7a_b2; funext _ _ _ _ _; exact (laws_markShapeS_l2.eq_2 ..).symm) (fun n => h7a_g2 laws_markShapeS_l2 n)) allN)

/-! loop.example/g01297/laws.heldShapeS -/
def h8a_t2 : Tpl := ⟨(.sl 0 :: (.int .i64 :: (.any :: (.any :: (.any :: (.int .i64 :: (anyN 34 []))))))), [(0, .rows 0 30 .tr)], [], false⟩
def h8a_p2 : PcS := loopS [.int, .int, .rows .tr] [0]
abbrev h8a_x {α : Type} (G2 : T28 α) : Nat → Ctx α := ctxS M eqs jt0 [] [lpT 2 h8a_t2 h8a_p2 R3 G2]
def h8a_b2 {α : Type} (G2 : T28 α) (k : Nat) (k_1 : Int) (i : Int) (a1 : List (Int × Int × Int)) (b0 : Int → Int → (List (Int × Int × Int)) → Option α) (r0 : Int → Option α) : Option α :=
  bif decide (i < (((List.length a1) : Nat) : Int)) then
    bif (decide (0 ≤ i) && decide (i < (((List.length a1) : Nat) : Int))) then
      (a1[i.toNat]?).bind fun e_ =>
      bif (!decide (e_.1 = k_1)) then
        r0 (-1)
      else
      bif (decide (0 ≤ i) && decide (i < (((List.length a1) : Nat) : Int))) then
        (a1[i.toNat]?).bind fun e_1 =>
        bif (!decide (e_1.2.1 = (w64 (k_1 + 1)))) then
          r0 (-1)
        else
        bif (decide (0 ≤ i) && decide (i < (((List.length a1) : Nat) : Int))) then
          (a1[i.toNat]?).bind fun e_2 =>
          bif (!decide (e_2.2.2 = (w64 ((w64 (k_1 + 1)) + 1)))) then
            r0 (-1)
          else
            G2 k (w64 ((w64 ((w64 (k_1 + 1)) + 1)) + 1)) (w64 (i + 1)) a1 b0 r0
        else
          none
      else
        none
    else
      none
  else
    b0 k_1 i a1
theorem h8a_g2 {α : Type} (G2 : T28 α) (n : Nat) : GenL (α := α) Try.prog Try.f8 S25 (h8a_x G2 n) 2 h8a_t2 h8a_p2 n G2 (h8a_b2 G2) := by intro _ _ _ _ _; kernel_rfl
def h8a_b {α : Type} (G2 : T28 α) (k : Nat) (a : List (Int × Int × Int)) (k_ : Int) (r0 : Int → Option α) : Option α :=
  G2 k k_ 0 a
    (fun k_2 _ _ =>
      r0 k_2)
    r0
theorem h8a_g {α : Type} (G2 : T28 α) (n : Nat) : GenF (α := α) Try.prog Try.f8 S25 (h8a_x G2 n) n (h8a_b G2) := by intro _ _ _; kernel_rfl
theorem h8a_good {α : Type} : ∀ n, GoodFn (α := α) Try.prog 8 (byShape S25.sh (callS S25 laws_heldShapeS n)) := good_of Try.func8 (by kernel_rfl) (by kernel_rfl) (by kernel_rfl) eqs_ok (fun n => h8a_g laws_heldShapeS_l2 n) (by delta h8a_b laws_heldShapeS; rfl) allN (allC (loop_fine (by kernel_rfl) (fun n => by delta h8a_b2; funext _ _ _ _ _; exact (laws_heldShapeS_l2.eq_2 ..).symm) (fun n => h8a_g2 laws_heldShapeS_l2 n)) allN)

/-! loop.example/g01297/laws.eqShapeS -/
abbrev h6b_x {α : Type}  : Nat → Ctx α := ctxS M eqs jt0 [] []
def h6b_b {α : Type}  (_ : Nat) (b_ : List (Int × Int × Int)) (r0 : Bool → Option α) : Option α :=
  bif (!decide (0 = (((List.length b_) : Nat) : Int))) then
    r0 false
  else
    r0 true
theorem h6b_g {α : Type}  (n : Nat) : GenF (α := α) Try.prog Try.f6 S26 (h6b_x n) n (h6b_b) := by intro _ _; kernel_rfl
theorem h6b_good {α : Type} : ∀ n, GoodFn (α := α) Try.prog 6 (byShape S26.sh (callS S26 laws_eqShapeS_0N n)) := good_of Try.func6 (by kernel_rfl) (by kernel_rfl) (by kernel_rfl) eqs_ok (fun n => h6b_g n) (by delta h6b_b laws_eqShapeS_0N; rfl) allN allN

/-! loop.example/g01297/laws.eqShape -/
abbrev h18_x {α : Type}  : Nat → Ctx α := ctxS M eqs jt0 [] []
def h18_b {α : Type}  (_ : Nat) (a : Int) (a1 : Int) (a2 : Int) (b_ : Int) (b_1 : Int) (b_2 : Int) (r0 : Bool → Option α) : Option α :=
  bif (!decide (a = b_)) then
    r0 false
  else
  bif (!decide (a1 = b_1)) then
    r0 false
  else
  bif (!decide (a2 = b_2)) then
    r0 false
  else
    r0 true
theorem h18_g {α : Type}  (n : Nat) : GenF (α := α) Try.prog Try.f18 S9 (h18_x n) n (h18_b) := by intro _ _ _ _ _ _ _; kernel_rfl
theorem h18_good {α : Type} : ∀ n, GoodFn (α := α) Try.prog 18 (byShape S9.sh (callS S9 laws_eqShape n)) := good_of Try.func18 (by kernel_rfl) (by kernel_rfl) (by kernel_rfl) eqs_ok (fun n => h18_g n) (by delta h18_b laws_eqShape; rfl) allN allN

/-! loop.example/g01297/laws.eqShapeS -/
def h6c_t4 : Tpl := ⟨(.sl 0 :: (.sl 64 :: (.any :: (.any :: (.any :: (.int .i64 :: (anyN 21 []))))))), [(0, .rows 0 30 .tr), (64, .rows 0 30 .tr)], [], false⟩
def h6c_p4 : PcS := loopS [.int, .rows .tr, .rows .tr] [0]
abbrev h6c_x {α : Type} (F0 : T8 α) (G4 : T29 α) : Nat → Ctx α := ctxS M eqs jt0 [⟨18, S9, F0⟩] [lpT 4 h6c_t4 h6c_p4 R0 G4]
def h6c_b4 {α : Type} (F0 : T8 α) (G4 : T29 α) (k : Nat) (i : Int) (a1 : List (Int × Int × Int)) (b_1 : List (Int × Int × Int)) (b0 : Int → (List (Int × Int × Int)) → (List (Int × Int × Int)) → Option α) (r0 : Bool → Option α) : Option α :=
  bif decide (i < (((List.length a1) : Nat) : Int)) then
    bif (decide (0 ≤ i) && decide (i < (((List.length a1) : Nat) : Int))) then
      (a1[i.toNat]?).bind fun e_ =>
      bif (decide (0 ≤ i) && decide (i < (((List.length b_1) : Nat) : Int))) then
        (b_1[i.toNat]?).bind fun e_1 =>
        F0 k e_.1 e_.2.1 e_.2.2 e_1.1 e_1.2.1 e_1.2.2 fun v =>
        bif (!v) then
          r0 false
        else
          G4 k (w64 (i + 1)) a1 b_1 b0 r0
      else
        none
    else
      none
  else
    b0 i a1 b_1
theorem h6c_g4 {α : Type} (F0 : T8 α) (G4 : T29 α) (n : Nat) : GenL (α := α) Try.prog Try.f6 S27 (h6c_x F0 G4 n) 4 h6c_t4 h6c_p4 n G4 (h6c_b4 F0 G4) := by intro _ _ _ _ _; kernel_rfl
def h6c_b {α : Type} (G4 : T29 α) (k : Nat) (a : List (Int × Int × Int)) (b_ : List (Int × Int × Int)) (r0 : Bool → Option α) : Option α :=
  bif (!decide ((((List.length a) : Nat) : Int) = (((List.length b_) : Nat) : Int))) then
    r0 false
  else
    G4 k 0 a b_
      (fun _ _ _ =>
        r0 true)
      r0
theorem h6c_g {α : Type} (F0 : T8 α) (G4 : T29 α) (n : Nat) : GenF (α := α) Try.prog Try.f6 S27 (h6c_x F0 G4 n) n (h6c_b G4) := by intro _ _ _; kernel_rfl
theorem h6c_good {α : Type} : ∀ n, GoodFn (α := α) Try.prog 6 (byShape S27.sh (callS S27 laws_eqShapeS n)) := good_of Try.func6 (by kernel_rfl) (by kernel_rfl) (by kernel_rfl) eqs_ok (fun n => h6c_g laws_eqShape laws_eqShapeS_l4 n) (by delta h6c_b laws_eqShapeS; rfl) (allC h18_good allN) (allC (loop_fine (by kernel_rfl) (fun n => by delta h6c_b4; funext _ _ _ _ _; exact (laws_eqShapeS_l4.eq_2 ..).symm) (fun n => h6c_g4 laws_eqShape laws_eqShapeS_l4 n)) allN)

end Go.Proofs.Ytgpmeanhkkkghaa
