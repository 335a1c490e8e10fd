/- The program's functions hold to their readings without memory: printed by a program of ours. -/
import Derived.Test.YtoejoijickfgaaaSeXClassNumber
namespace Go.Proofs.Ytoejoijickfgaaa
open Go Go.Ev Go.Sh Go.Proofs

/-! loop.example/g01297/spec.l01In -/
abbrev h12_x {α : Type}  : Nat → Ctx α := ctxS false M eqs jt0 [] []
def h12_b {α : Type}  (_ : Nat) (n_ : Int) (low : Int) (high : Int) (r0 : Bool → Option α) : Option α :=
  bif decide (low ≤ n_) then
    r0 (decide (n_ ≤ high))
  else
    r0 false
theorem h12_g {α : Type}  (n : Nat) : GenF (α := α) Try.prog Try.f12 S0 (h12_x n) n (h12_b) := by intro _ _ _ _; kernel_rfl
theorem h12_good {α : Type} : ∀ n, GoodFn (α := α) Try.prog 12 (byShape S0.sh (callS S0 spec_l01In n)) := good_of Try.func12 (by kernel_rfl) (by kernel_rfl) (by kernel_rfl) eqs_ok (fun n => h12_g n) (by delta h12_b spec_l01In; rfl) allN allN

/-! loop.example/g01297/spec.l06Root -/
def h13_t2 : Tpl := ⟨(.int .i64 :: (.any :: (.any :: (.int .i64 :: (anyN 10 []))))), [], [], false⟩
def h13_p2 : PcS := loopS [.int, .int] [0]
abbrev h13_x {α : Type} (G2 : T0 α) : Nat → Ctx α := ctxS false M eqs jt0 [] [lpT 2 h13_t2 h13_p2 R1 G2]
def h13_b2 {α : Type} (G2 : T0 α) (k : Nat) (d1 : Int) (w : Int) (b0 : Int → Int → Option α) (r0 : Int → Option α) : Option α :=
  bif decide ((w64 ((w64 (w + 1)) * (w64 (w + 1)))) ≤ d1) then
    G2 k d1 (w64 (w + 1)) b0 r0
  else
    b0 d1 w
theorem h13_g2 {α : Type} (G2 : T0 α) (n : Nat) : GenL (α := α) Try.prog Try.f13 S1 (h13_x G2 n) 2 h13_t2 h13_p2 n G2 (h13_b2 G2) := by intro _ _ _ _; kernel_rfl
def h13_b {α : Type} (G2 : T0 α) (k : Nat) (d : Int) (r0 : Int → Option α) : Option α :=
  G2 k d 0
    (fun _ w1 =>
      r0 w1)
    r0
theorem h13_g {α : Type} (G2 : T0 α) (n : Nat) : GenF (α := α) Try.prog Try.f13 S1 (h13_x G2 n) n (h13_b G2) := by intro _ _; kernel_rfl
theorem h13_good {α : Type} : ∀ n, GoodFn (α := α) Try.prog 13 (byShape S1.sh (callS S1 spec_l06Root n)) := good_of Try.func13 (by kernel_rfl) (by kernel_rfl) (by kernel_rfl) eqs_ok (fun n => h13_g spec_l06Root_l2 n) (by delta h13_b spec_l06Root; rfl) allN (allC (loop_fine (by kernel_rfl) (fun n => by delta h13_b2; funext _ _ _ _; exact (spec_l06Root_l2.eq_2 ..).symm) (fun n => h13_g2 spec_l06Root_l2 n)) allN)

/-! loop.example/g01297/spec.l06Reduced -/
abbrev h14_x {α : Type}  : Nat → Ctx α := ctxS false M eqs jt0 [] []
def h14_b {α : Type}  (_ : Nat) (x : Int) (x1 : Int) (_ : Int) (w : Int) (r0 : Bool → Option α) : Option α :=
  bif decide (0 < x1) then
    bif decide (x1 ≤ w) then
      bif decide ((w64 (w - x1)) < (w64 (2 * (max x (w64 (0 - x)))))) then
        r0 (decide ((w64 (2 * (max x (w64 (0 - x))))) ≤ (w64 (w + x1))))
      else
        r0 false
    else
      r0 false
  else
    r0 false
theorem h14_g {α : Type}  (n : Nat) : GenF (α := α) Try.prog Try.f14 S2 (h14_x n) n (h14_b) := by intro _ _ _ _ _; kernel_rfl
theorem h14_good {α : Type} : ∀ n, GoodFn (α := α) Try.prog 14 (byShape S2.sh (callS S2 spec_l06Reduced n)) := good_of Try.func14 (by kernel_rfl) (by kernel_rfl) (by kernel_rfl) eqs_ok (fun n => h14_g n) (by delta h14_b spec_l06Reduced; rfl) allN allN

/-! loop.example/g01297/spec.l06All -/
def h6_t11 : Tpl := ⟨(.int .i64 :: (.any :: (.any :: (.any :: (.int .i64 :: (.sl 1536 :: (.int .i64 :: (.int .i64 :: (anyN 61 []))))))))), [(1536, .rows 2 30 .tr)], [], false⟩
def h6_p11 : PcS := loopS [.int, .int, .int, .int, .rows .tr] [2]
def h6_t8 : Tpl := ⟨(.int .i64 :: (.any :: (.any :: (.any :: (.int .i64 :: (.sl 1536 :: (.int .i64 :: (anyN 62 [])))))))), [(1536, .rows 2 30 .tr)], [], false⟩
def h6_p8 : PcS := loopS [.int, .int, .int, .rows .tr] [0]
abbrev h6_x {α : Type} (F0 : T1 α) (F1 : T2 α) (F2 : T3 α) (G11 : T4 α) (G8 : T5 α) : Nat → Ctx α := ctxS false M eqs jt0 [⟨12, S0, F0⟩, ⟨13, S1, F1⟩, ⟨14, S2, F2⟩] [lpT 11 h6_t11 h6_p11 R2 G11, lpT 8 h6_t8 h6_p8 R2 G8]
def h6_b11 {α : Type} (F2 : T3 α) (G11 : T4 α) (k : Nat) (d2 : Int) (w1 : Int) (a1 : Int) (b_ : Int) (out1 : List (Int × Int × Int)) (b2 : Int → Int → Int → Int → (List (Int × Int × Int)) → Option α) (r0 : Int → Option α) (r1 : (List (Int × Int × Int)) → Int → Option α) : Option α :=
  bif decide (b_ ≤ w1) then
    bif (!decide (a1 = 0)) then
      bif decide ((w64 (4 * a1)) = 0) then
        none
      else
      bif (!decide ((Int.tmod (w64 ((w64 (b_ * b_)) - d2)) (w64 (4 * a1))) = 0)) then
        G11 k d2 w1 a1 (w64 (b_ + 1)) out1 b2 r0 r1
      else
      bif decide ((w64 (4 * a1)) = 0) then
        none
      else
        F2 k a1 b_ (w64 (Int.tdiv (w64 ((w64 (b_ * b_)) - d2)) (w64 (4 * a1)))) w1 fun v2 =>
        bif v2 then
          bif decide (((List.length out1) + 1) ≤ big) then
            G11 k d2 w1 a1 (w64 (b_ + 1)) (out1 ++ [(a1, b_, (w64 (Int.tdiv (w64 ((w64 (b_ * b_)) - d2)) (w64 (4 * a1)))))]) b2 r0 r1
          else
            none
        else
          G11 k d2 w1 a1 (w64 (b_ + 1)) out1 b2 r0 r1
    else
      b2 d2 w1 a1 b_ out1
  else
    b2 d2 w1 a1 b_ out1
theorem h6_g11 {α : Type} (F0 : T1 α) (F1 : T2 α) (F2 : T3 α) (G11 : T4 α) (G8 : T5 α) (n : Nat) : GenL (α := α) Try.prog Try.f6 S3 (h6_x F0 F1 F2 G11 G8 n) 11 h6_t11 h6_p11 n G11 (h6_b11 F2 G11) := by intro _ _ _ _ _ _ _; kernel_rfl
def h6_b8 {α : Type} (G11 : T4 α) (G8 : T5 α) (k : Nat) (d1 : Int) (w : Int) (a : Int) (out : List (Int × Int × Int)) (b0 : Int → Int → Int → (List (Int × Int × Int)) → Option α) (r0 : Int → Option α) (r1 : (List (Int × Int × Int)) → Int → Option α) : Option α :=
  bif decide (a ≤ w) then
    G11 k d1 w a 1 out
      (fun d3 w2 a2 _ out2 =>
        G8 k d3 w2 (w64 (a2 + 1)) out2 b0 r0 r1)
      r0 r1
  else
    b0 d1 w a out
theorem h6_g8 {α : Type} (F0 : T1 α) (F1 : T2 α) (F2 : T3 α) (G11 : T4 α) (G8 : T5 α) (n : Nat) : GenL (α := α) Try.prog Try.f6 S3 (h6_x F0 F1 F2 G11 G8 n) 8 h6_t8 h6_p8 n G8 (h6_b8 G11 G8) := by intro _ _ _ _ _ _; kernel_rfl
def h6_b {α : Type} (F0 : T1 α) (F1 : T2 α) (G8 : T5 α) (k : Nat) (d : Int) (r0 : Int → Option α) (r1 : (List (Int × Int × Int)) → Int → Option α) : Option α :=
  F0 k d 1 4000 fun v =>
  bif (!v) then
    r0 2
  else
    F1 k d fun v1 =>
    bif decide ((w64 (v1 * v1)) = d) then
      r0 5
    else
    bif decide (1 < (Int.tmod d 4)) then
      r0 5
    else
      G8 k d v1 (w64 (0 - v1)) []
        (fun _ _ _ out3 =>
          r1 out3 0)
        r0 r1
theorem h6_g {α : Type} (F0 : T1 α) (F1 : T2 α) (F2 : T3 α) (G11 : T4 α) (G8 : T5 α) (n : Nat) : GenF (α := α) Try.prog Try.f6 S3 (h6_x F0 F1 F2 G11 G8 n) n (h6_b F0 F1 G8) := by intro _ _; kernel_rfl
theorem h6_good {α : Type} : ∀ n, GoodFn (α := α) Try.prog 6 (byShape S3.sh (callS S3 spec_l06All n)) := good_of Try.func6 (by kernel_rfl) (by kernel_rfl) (by kernel_rfl) eqs_ok (fun n => h6_g spec_l01In spec_l06Root spec_l06Reduced spec_l06All_l11 spec_l06All_l8 n) (by delta h6_b spec_l06All; rfl) (allC h12_good (allC h13_good (allC h14_good allN))) (allC (loop_fine (by kernel_rfl) (fun n => by delta h6_b11; funext _ _ _ _ _ _ _ _; exact (spec_l06All_l11.eq_2 ..).symm) (fun n => h6_g11 spec_l01In spec_l06Root spec_l06Reduced spec_l06All_l11 spec_l06All_l8 n)) (allC (loop_fine (by kernel_rfl) (fun n => by delta h6_b8; funext _ _ _ _ _ _ _; exact (spec_l06All_l8.eq_2 ..).symm) (fun n => h6_g8 spec_l01In spec_l06Root spec_l06Reduced spec_l06All_l11 spec_l06All_l8 n)) allN))

/-! loop.example/g01297/spec.l06Has -/
def h7_t2 : Tpl := ⟨(.sl 0 :: (.any :: (.any :: (.ptr 192 0 0 :: (.any :: (.int .i64 :: (anyN 12 []))))))), [(0, .rows 0 30 .tr), (192, .ints 2 30 .i64 3)], [], false⟩
def h7_p2 : PcS := loopS [.int, .rows .tr, .int, .int, .int] [0]
abbrev h7_x {α : Type} (G2 : T6 α) : Nat → Ctx α := ctxS false M eqs jt0 [] [lpT 2 h7_t2 h7_p2 R0 G2]
def h7_b2 {α : Type} (G2 : T6 α) (k : Nat) (i : Int) (list1 : List (Int × Int × Int)) (x3 : Int) (x4 : Int) (x5 : Int) (b0 : Int → (List (Int × Int × Int)) → Int → Int → Int → Option α) (r0 : Bool → Option α) : Option α :=
  bif decide (i < (((List.length list1) : Nat) : Int)) then
    bif (decide (0 ≤ i) && decide (i < (((List.length list1) : Nat) : Int))) then
      (list1[i.toNat]?).bind fun e_ =>
      bif (decide (e_.1 = x3) && (decide (e_.2.1 = x4) && decide (e_.2.2 = x5))) then
        r0 true
      else
        G2 k (w64 (i + 1)) list1 x3 x4 x5 b0 r0
    else
      none
  else
    b0 i list1 x3 x4 x5
theorem h7_g2 {α : Type} (G2 : T6 α) (n : Nat) : GenL (α := α) Try.prog Try.f7 S4 (h7_x G2 n) 2 h7_t2 h7_p2 n G2 (h7_b2 G2) := by intro _ _ _ _ _ _ _; kernel_rfl
def h7_b {α : Type} (G2 : T6 α) (k : Nat) (list : List (Int × Int × Int)) (x : Int) (x1 : Int) (x2 : Int) (r0 : Bool → Option α) : Option α :=
  G2 k 0 list x x1 x2
    (fun _ _ _ _ _ =>
      r0 false)
    r0
theorem h7_g {α : Type} (G2 : T6 α) (n : Nat) : GenF (α := α) Try.prog Try.f7 S4 (h7_x G2 n) n (h7_b G2) := by intro _ _ _ _ _; kernel_rfl
theorem h7_good {α : Type} : ∀ n, GoodFn (α := α) Try.prog 7 (byShape S4.sh (callS S4 spec_l06Has n)) := good_of Try.func7 (by kernel_rfl) (by kernel_rfl) (by kernel_rfl) eqs_ok (fun n => h7_g spec_l06Has_l2 n) (by delta h7_b spec_l06Has; rfl) allN (allC (loop_fine (by kernel_rfl) (fun n => by delta h7_b2; funext _ _ _ _ _ _ _; exact (spec_l06Has_l2.eq_2 ..).symm) (fun n => h7_g2 spec_l06Has_l2 n)) allN)

/-! loop.example/g01297/spec.l06Disc -/
abbrev h15_x {α : Type}  : Nat → Ctx α := ctxS false M eqs jt0 [] []
def h15_b {α : Type}  (_ : Nat) (x : Int) (x1 : Int) (x2 : Int) (r0 : Int → Option α) : Option α :=
  r0 (w64 ((w64 (x1 * x1)) - (w64 ((w64 (4 * x)) * x2))))
theorem h15_g {α : Type}  (n : Nat) : GenF (α := α) Try.prog Try.f15 S5 (h15_x n) n (h15_b) := by intro _ _ _ _; kernel_rfl
theorem h15_good {α : Type} : ∀ n, GoodFn (α := α) Try.prog 15 (byShape S5.sh (callS S5 spec_l06Disc n)) := good_of Try.func15 (by kernel_rfl) (by kernel_rfl) (by kernel_rfl) eqs_ok (fun n => h15_g n) (by delta h15_b spec_l06Disc; rfl) allN allN

/-! loop.example/g01297/spec.l01Rest -/
abbrev h22_x {α : Type}  : Nat → Ctx α := ctxS false M eqs jt0 [] []
def h22_b {α : Type}  (_ : Nat) (n_ : Int) (x : Int) (r0 : Int → Option α) : Option α :=
  bif decide (n_ = 0) then
    none
  else
  bif decide (n_ = 0) then
    none
  else
    r0 (Int.tmod (w64 ((Int.tmod x n_) + n_)) n_)
theorem h22_g {α : Type}  (n : Nat) : GenF (α := α) Try.prog Try.f22 S6 (h22_x n) n (h22_b) := by intro _ _ _; kernel_rfl
theorem h22_good {α : Type} : ∀ n, GoodFn (α := α) Try.prog 22 (byShape S6.sh (callS S6 spec_l01Rest n)) := good_of Try.func22 (by kernel_rfl) (by kernel_rfl) (by kernel_rfl) eqs_ok (fun n => h22_g n) (by delta h22_b spec_l01Rest; rfl) allN allN

/-! loop.example/g01297/spec.l06Next -/
abbrev h16_x {α : Type} (F0 : T7 α) : Nat → Ctx α := ctxS false M eqs jt0 [⟨22, S6, F0⟩] []
def h16_b {α : Type} (F0 : T7 α) (k : Nat) (_ : Int) (x1 : Int) (x2 : Int) (d : Int) (w : Int) (r0 : Int → Int → Int → Option α) : Option α :=
  bif decide (w < (max x2 (w64 (0 - x2)))) then
    F0 k (w64 (2 * (max x2 (w64 (0 - x2))))) (w64 ((max x2 (w64 (0 - x2))) + x1)) fun v =>
    bif decide ((w64 (4 * x2)) = 0) then
      none
    else
      r0 x2 (w64 ((max x2 (w64 (0 - x2))) - v)) (w64 (Int.tdiv (w64 ((w64 ((w64 ((max x2 (w64 (0 - x2))) - v)) * (w64 ((max x2 (w64 (0 - x2))) - v)))) - d)) (w64 (4 * x2))))
  else
    F0 k (w64 (2 * (max x2 (w64 (0 - x2))))) (w64 (w + x1)) fun v1 =>
    bif decide ((w64 (4 * x2)) = 0) then
      none
    else
      r0 x2 (w64 (w - v1)) (w64 (Int.tdiv (w64 ((w64 ((w64 (w - v1)) * (w64 (w - v1)))) - d)) (w64 (4 * x2))))
theorem h16_g {α : Type} (F0 : T7 α) (n : Nat) : GenF (α := α) Try.prog Try.f16 S7 (h16_x F0 n) n (h16_b F0) := by intro _ _ _ _ _ _; kernel_rfl
theorem h16_good {α : Type} : ∀ n, GoodFn (α := α) Try.prog 16 (byShape S7.sh (callS S7 spec_l06Next n)) := good_of Try.func16 (by kernel_rfl) (by kernel_rfl) (by kernel_rfl) eqs_ok (fun n => h16_g spec_l01Rest n) (by delta h16_b spec_l06Next; rfl) (allC h22_good allN) allN

/-! loop.example/g01297/spec.l06Cycle -/
def h8_t3 : Tpl := ⟨(.any :: (.ptr 64 0 0 :: (.any :: (.int .i64 :: (.int .i64 :: (anyN 33 [])))))), [(64, .ints 2 30 .i64 3)], [], false⟩
def h8_p3 : PcS := loopS [.int, .int, .int, .int, .int] [0]
def h8_t7 : Tpl := ⟨(.any :: (.ptr 64 0 0 :: (.any :: (.int .i64 :: (.int .i64 :: (.sl 1280 :: (.ptr 384 0 0 :: (anyN 31 [])))))))), [(64, .ints 2 30 .i64 3), (1280, .rows 2 30 .tr), (384, .ints 2 30 .i64 3)], [], false⟩
def h8_p7 : PcS := loopS [.int, .int, .int, .int, .int, .rows .tr, .int, .int, .int] [2]
abbrev h8_x {α : Type} (F0 : T8 α) (F1 : T2 α) (F2 : T3 α) (F3 : T9 α) (G3 : T10 α) (G7 : T11 α) : Nat → Ctx α := ctxS false M eqs jt0 [⟨15, S5, F0⟩, ⟨13, S1, F1⟩, ⟨14, S2, F2⟩, ⟨16, S7, F3⟩] [lpT 3 h8_t3 h8_p3 R4 G3, lpT 7 h8_t7 h8_p7 R4 G7]
def h8_b3 {α : Type} (F2 : T3 α) (F3 : T9 α) (G3 : T10 α) (k : Nat) (d : Int) (w : Int) (x3 : Int) (x4 : Int) (x5 : Int) (b0 : Int → Int → Int → Int → Int → Option α) (r0 : (List (Int × Int × Int)) → Option α) : Option α :=
  F2 k x3 x4 x5 w fun v2 =>
  bif (!v2) then
    F3 k x3 x4 x5 d w fun v3 v4 v5 =>
    G3 k d w v3 v4 v5 b0 r0
  else
    b0 d w x3 x4 x5
theorem h8_g3 {α : Type} (F0 : T8 α) (F1 : T2 α) (F2 : T3 α) (F3 : T9 α) (G3 : T10 α) (G7 : T11 α) (n : Nat) : GenL (α := α) Try.prog Try.f8 S8 (h8_x F0 F1 F2 F3 G3 G7 n) 3 h8_t3 h8_p3 n G3 (h8_b3 F2 F3 G3) := by intro _ _ _ _ _ _ _; kernel_rfl
def h8_b7 {α : Type} (F3 : T9 α) (G7 : T11 α) (k : Nat) (d2 : Int) (w2 : Int) (x9 : Int) (x10 : Int) (x11 : Int) (out : List (Int × Int × Int)) (now : Int) (now1 : Int) (now2 : Int) (b2 : Int → Int → Int → Int → Int → (List (Int × Int × Int)) → Int → Int → Int → Option α) (r0 : (List (Int × Int × Int)) → Option α) : Option α :=
  bif (!(decide (now = x9) && (decide (now1 = x10) && decide (now2 = x11)))) then
    bif decide (((List.length out) + 1) ≤ big) then
      F3 k now now1 now2 d2 w2 fun v9 v10 v11 =>
      G7 k d2 w2 x9 x10 x11 (out ++ [(now, now1, now2)]) v9 v10 v11 b2 r0
    else
      none
  else
    b2 d2 w2 x9 x10 x11 out now now1 now2
theorem h8_g7 {α : Type} (F0 : T8 α) (F1 : T2 α) (F2 : T3 α) (F3 : T9 α) (G3 : T10 α) (G7 : T11 α) (n : Nat) : GenL (α := α) Try.prog Try.f8 S8 (h8_x F0 F1 F2 F3 G3 G7 n) 7 h8_t7 h8_p7 n G7 (h8_b7 F3 G7) := by intro _ _ _ _ _ _ _ _ _ _ _; kernel_rfl
def h8_b {α : Type} (F0 : T8 α) (F1 : T2 α) (F3 : T9 α) (G3 : T10 α) (G7 : T11 α) (k : Nat) (x : Int) (x1 : Int) (x2 : Int) (r0 : (List (Int × Int × Int)) → Option α) : Option α :=
  F0 k x x1 x2 fun v =>
  F1 k v fun v1 =>
  G3 k v v1 x x1 x2
    (fun d1 w1 x6 x7 x8 =>
      F3 k x6 x7 x8 d1 w1 fun v6 v7 v8 =>
      G7 k d1 w1 x6 x7 x8 [(x6, x7, x8)] v6 v7 v8
        (fun _ _ _ _ _ out1 _ _ _ =>
          r0 out1)
        r0)
    r0
theorem h8_g {α : Type} (F0 : T8 α) (F1 : T2 α) (F2 : T3 α) (F3 : T9 α) (G3 : T10 α) (G7 : T11 α) (n : Nat) : GenF (α := α) Try.prog Try.f8 S8 (h8_x F0 F1 F2 F3 G3 G7 n) n (h8_b F0 F1 F3 G3 G7) := by intro _ _ _ _; kernel_rfl
theorem h8_good {α : Type} : ∀ n, GoodFn (α := α) Try.prog 8 (byShape S8.sh (callS S8 spec_l06Cycle n)) := good_of Try.func8 (by kernel_rfl) (by kernel_rfl) (by kernel_rfl) eqs_ok (fun n => h8_g spec_l06Disc spec_l06Root spec_l06Reduced spec_l06Next spec_l06Cycle_l3 spec_l06Cycle_l7 n) (by delta h8_b spec_l06Cycle; rfl) (allC h15_good (allC h13_good (allC h14_good (allC h16_good allN)))) (allC (loop_fine (by kernel_rfl) (fun n => by delta h8_b3; funext _ _ _ _ _ _ _; exact (spec_l06Cycle_l3.eq_2 ..).symm) (fun n => h8_g3 spec_l06Disc spec_l06Root spec_l06Reduced spec_l06Next spec_l06Cycle_l3 spec_l06Cycle_l7 n)) (allC (loop_fine (by kernel_rfl) (fun n => by delta h8_b7; funext _ _ _ _ _ _ _ _ _ _ _; exact (spec_l06Cycle_l7.eq_2 ..).symm) (fun n => h8_g7 spec_l06Disc spec_l06Root spec_l06Reduced spec_l06Next spec_l06Cycle_l3 spec_l06Cycle_l7 n)) allN))

/-! loop.example/g01297/spec.ClassNumber -/
def h4_t6 : Tpl := ⟨(anyN 4 (.sl 704 :: (.any :: (.int .i64 :: (.sl 1088 :: (.int .i64 :: (anyN 32 []))))))), [(704, .rows 2 30 .tr), (1088, .rows 2 30 .tr)], [(4, 704, 30, .tr)], false⟩
def h4_p6 : PcS := loopS [.int, .int, .rows .tr, .rows .tr] [0]
abbrev h4_x {α : Type} (F0 : T12 α) (F1 : T13 α) (F2 : T14 α) (G6 : T15 α) : Nat → Ctx α := ctxS false M eqs jt0 [⟨6, S3, F0⟩, ⟨7, S4, F1⟩, ⟨8, S8, F2⟩] [lpT 6 h4_t6 h4_p6 R5 G6]
def h4_b6 {α : Type} (F1 : T13 α) (F2 : T14 α) (G6 : T15 α) (k : Nat) (count : Int) (i : Int) (list : List (Int × Int × Int)) (met : List (Int × Int × Int)) (b0 : Int → Int → (List (Int × Int × Int)) → (List (Int × Int × Int)) → Option α) (r0 : Int → Int → Option α) : Option α :=
  bif decide (i < (((List.length list) : Nat) : Int)) then
    bif (decide (0 ≤ i) && decide (i < (((List.length list) : Nat) : Int))) then
      (list[i.toNat]?).bind fun e_ =>
      F1 k met e_.1 e_.2.1 e_.2.2 fun v1 =>
      bif (!v1) then
        bif (decide (0 ≤ i) && decide (i < (((List.length list) : Nat) : Int))) then
          (list[i.toNat]?).bind fun e_1 =>
          F2 k e_1.1 e_1.2.1 e_1.2.2 fun v2 =>
          bif decide (((List.length met) + (List.length v2)) ≤ big) then
            G6 k (w64 (count + 1)) (w64 (i + 1)) list (met ++ v2) b0 r0
          else
            none
        else
          none
      else
        G6 k count (w64 (i + 1)) list met b0 r0
    else
      none
  else
    b0 count i list met
theorem h4_g6 {α : Type} (F0 : T12 α) (F1 : T13 α) (F2 : T14 α) (G6 : T15 α) (n : Nat) : GenL (α := α) Try.prog Try.f4 S9 (h4_x F0 F1 F2 G6 n) 6 h4_t6 h4_p6 n G6 (h4_b6 F1 F2 G6) := by intro _ _ _ _ _ _; kernel_rfl
def h4_b {α : Type} (F0 : T12 α) (G6 : T15 α) (k : Nat) (d : Int) (r0 : Int → Int → Option α) : Option α :=
  F0 k d
    (fun v =>
      bif (!decide (v = 0)) then
        r0 0 v
      else
        G6 k 0 0 [] []
          (fun count1 _ _ _ =>
            r0 count1 0)
          r0)
    (fun v3 v4 =>
      bif (!decide (v4 = 0)) then
        r0 0 v4
      else
        G6 k 0 0 v3 []
          (fun count2 _ _ _ =>
            r0 count2 0)
          r0)
theorem h4_g {α : Type} (F0 : T12 α) (F1 : T13 α) (F2 : T14 α) (G6 : T15 α) (n : Nat) : GenF (α := α) Try.prog Try.f4 S9 (h4_x F0 F1 F2 G6 n) n (h4_b F0 G6) := by intro _ _; kernel_rfl
theorem h4_good {α : Type} : ∀ n, GoodFn (α := α) Try.prog 4 (byShape S9.sh (callS S9 spec_ClassNumber n)) := good_of Try.func4 (by kernel_rfl) (by kernel_rfl) (by kernel_rfl) eqs_ok (fun n => h4_g spec_l06All spec_l06Has spec_l06Cycle spec_ClassNumber_l6 n) (by delta h4_b spec_ClassNumber; rfl) (allC h6_good (allC h7_good (allC h8_good allN))) (allC (loop_fine (by kernel_rfl) (fun n => by delta h4_b6; funext _ _ _ _ _ _; exact (spec_ClassNumber_l6.eq_2 ..).symm) (fun n => h4_g6 spec_l06All spec_l06Has spec_l06Cycle spec_ClassNumber_l6 n)) allN)

/-! loop.example/g01297/impl.in -/
abbrev h17_x {α : Type}  : Nat → Ctx α := ctxS false M eqs jt0 [] []
def h17_b {α : Type}  (_ : Nat) (n_ : Int) (low : Int) (high : Int) (r0 : Bool → Option α) : Option α :=
  bif decide (low ≤ n_) then
    r0 (decide (n_ ≤ high))
  else
    r0 false
theorem h17_g {α : Type}  (n : Nat) : GenF (α := α) Try.prog Try.f17 S0 (h17_x n) n (h17_b) := by intro _ _ _ _; kernel_rfl
theorem h17_good {α : Type} : ∀ n, GoodFn (α := α) Try.prog 17 (byShape S0.sh (callS S0 impl_in n)) := good_of Try.func17 (by kernel_rfl) (by kernel_rfl) (by kernel_rfl) eqs_ok (fun n => h17_g n) (by delta h17_b impl_in; rfl) allN allN

/-! loop.example/g01297/impl.root -/
def h19_t2 : Tpl := ⟨(.int .i64 :: (.any :: (.any :: (.int .i64 :: (anyN 10 []))))), [], [], false⟩
def h19_p2 : PcS := loopS [.int, .int] [0]
abbrev h19_x {α : Type} (G2 : T0 α) : Nat → Ctx α := ctxS false M eqs jt0 [] [lpT 2 h19_t2 h19_p2 R1 G2]
def h19_b2 {α : Type} (G2 : T0 α) (k : Nat) (d1 : Int) (w : Int) (b0 : Int → Int → Option α) (r0 : Int → Option α) : Option α :=
  bif decide ((w64 ((w64 (w + 1)) * (w64 (w + 1)))) ≤ d1) then
    G2 k d1 (w64 (w + 1)) b0 r0
  else
    b0 d1 w
theorem h19_g2 {α : Type} (G2 : T0 α) (n : Nat) : GenL (α := α) Try.prog Try.f19 S1 (h19_x G2 n) 2 h19_t2 h19_p2 n G2 (h19_b2 G2) := by intro _ _ _ _; kernel_rfl
def h19_b {α : Type} (G2 : T0 α) (k : Nat) (d : Int) (r0 : Int → Option α) : Option α :=
  G2 k d 0
    (fun _ w1 =>
      r0 w1)
    r0
theorem h19_g {α : Type} (G2 : T0 α) (n : Nat) : GenF (α := α) Try.prog Try.f19 S1 (h19_x G2 n) n (h19_b G2) := by intro _ _; kernel_rfl
theorem h19_good {α : Type} : ∀ n, GoodFn (α := α) Try.prog 19 (byShape S1.sh (callS S1 impl_root n)) := good_of Try.func19 (by kernel_rfl) (by kernel_rfl) (by kernel_rfl) eqs_ok (fun n => h19_g impl_root_l2 n) (by delta h19_b impl_root; rfl) allN (allC (loop_fine (by kernel_rfl) (fun n => by delta h19_b2; funext _ _ _ _; exact (impl_root_l2.eq_2 ..).symm) (fun n => h19_g2 impl_root_l2 n)) allN)

/-! loop.example/g01297/impl.discOk -/
abbrev h18_x {α : Type} (F0 : T1 α) (F1 : T2 α) : Nat → Ctx α := ctxS false M eqs jt0 [⟨17, S0, F0⟩, ⟨19, S1, F1⟩] []
def h18_b {α : Type} (F0 : T1 α) (F1 : T2 α) (k : Nat) (d : Int) (r0 : Bool → Option α) : Option α :=
  F0 k d 1 4000 fun v =>
  bif v then
    F1 k d fun v1 =>
    F1 k d fun v2 =>
    r0 (!decide ((w64 (v1 * v2)) = d))
  else
    r0 false
theorem h18_g {α : Type} (F0 : T1 α) (F1 : T2 α) (n : Nat) : GenF (α := α) Try.prog Try.f18 S10 (h18_x F0 F1 n) n (h18_b F0 F1) := by intro _ _; kernel_rfl
theorem h18_good {α : Type} : ∀ n, GoodFn (α := α) Try.prog 18 (byShape S10.sh (callS S10 impl_discOk n)) := good_of Try.func18 (by kernel_rfl) (by kernel_rfl) (by kernel_rfl) eqs_ok (fun n => h18_g impl_in impl_root n) (by delta h18_b impl_discOk; rfl) (allC h17_good (allC h19_good allN)) allN

/-! loop.example/g01297/impl.discFault -/
abbrev h9_x {α : Type} (F0 : T1 α) (F1 : T16 α) : Nat → Ctx α := ctxS false M eqs jt0 [⟨17, S0, F0⟩, ⟨18, S10, F1⟩] []
def h9_b {α : Type} (F0 : T1 α) (F1 : T16 α) (k : Nat) (d : Int) (r0 : Int → Option α) : Option α :=
  F0 k d 1 4000 fun v =>
  bif (!v) then
    r0 2
  else
    F1 k d fun v1 =>
    bif (!v1) then
      r0 5
    else
    bif decide (1 < (Int.tmod d 4)) then
      r0 5
    else
      r0 0
theorem h9_g {α : Type} (F0 : T1 α) (F1 : T16 α) (n : Nat) : GenF (α := α) Try.prog Try.f9 S1 (h9_x F0 F1 n) n (h9_b F0 F1) := by intro _ _; kernel_rfl
theorem h9_good {α : Type} : ∀ n, GoodFn (α := α) Try.prog 9 (byShape S1.sh (callS S1 impl_discFault n)) := good_of Try.func9 (by kernel_rfl) (by kernel_rfl) (by kernel_rfl) eqs_ok (fun n => h9_g impl_in impl_discOk n) (by delta h9_b impl_discFault; rfl) (allC h17_good (allC h18_good allN)) allN

/-! (loop.example/g01297/impl.Form).disc -/
abbrev h23_x {α : Type}  : Nat → Ctx α := ctxS false M eqs jt0 [] []
def h23_b {α : Type}  (_ : Nat) (x : Int) (x1 : Int) (x2 : Int) (r0 : Int → Option α) : Option α :=
  r0 (w64 ((w64 (x1 * x1)) - (w64 ((w64 (4 * x)) * x2))))
theorem h23_g {α : Type}  (n : Nat) : GenF (α := α) Try.prog Try.f23 S5 (h23_x n) n (h23_b) := by intro _ _ _ _; kernel_rfl
theorem h23_good {α : Type} : ∀ n, GoodFn (α := α) Try.prog 23 (byShape S5.sh (callS S5 impl_Form_disc n)) := good_of Try.func23 (by kernel_rfl) (by kernel_rfl) (by kernel_rfl) eqs_ok (fun n => h23_g n) (by delta h23_b impl_Form_disc; rfl) allN allN

/-! loop.example/g01297/impl.size -/
abbrev h24_x {α : Type}  : Nat → Ctx α := ctxS false M eqs jt0 [] []
def h24_b {α : Type}  (_ : Nat) (n_ : Int) (r0 : Int → Option α) : Option α :=
  r0 (max n_ (w64 (0 - n_)))
theorem h24_g {α : Type}  (n : Nat) : GenF (α := α) Try.prog Try.f24 S1 (h24_x n) n (h24_b) := by intro _ _; kernel_rfl
theorem h24_good {α : Type} : ∀ n, GoodFn (α := α) Try.prog 24 (byShape S1.sh (callS S1 impl_size n)) := good_of Try.func24 (by kernel_rfl) (by kernel_rfl) (by kernel_rfl) eqs_ok (fun n => h24_g n) (by delta h24_b impl_size; rfl) allN allN

/-! (loop.example/g01297/impl.Form).reduced -/
abbrev h20_x {α : Type} (F0 : T8 α) (F1 : T2 α) (F2 : T1 α) (F3 : T2 α) : Nat → Ctx α := ctxS false M eqs jt0 [⟨23, S5, F0⟩, ⟨19, S1, F1⟩, ⟨17, S0, F2⟩, ⟨24, S1, F3⟩] []
def h20_b {α : Type} (F0 : T8 α) (F1 : T2 α) (F2 : T1 α) (F3 : T2 α) (k : Nat) (x : Int) (x1 : Int) (x2 : Int) (r0 : Bool → Option α) : Option α :=
  F0 k x x1 x2 fun v =>
  F1 k v fun v1 =>
  F2 k x1 1 v1 fun v2 =>
  bif v2 then
    F3 k x fun v3 =>
    bif decide ((w64 (v1 - x1)) < (w64 (2 * v3))) then
      F3 k x fun v4 =>
      r0 (decide ((w64 (2 * v4)) ≤ (w64 (v1 + x1))))
    else
      r0 false
  else
    r0 false
theorem h20_g {α : Type} (F0 : T8 α) (F1 : T2 α) (F2 : T1 α) (F3 : T2 α) (n : Nat) : GenF (α := α) Try.prog Try.f20 S11 (h20_x F0 F1 F2 F3 n) n (h20_b F0 F1 F2 F3) := by intro _ _ _ _; kernel_rfl
theorem h20_good {α : Type} : ∀ n, GoodFn (α := α) Try.prog 20 (byShape S11.sh (callS S11 impl_Form_reduced n)) := good_of Try.func20 (by kernel_rfl) (by kernel_rfl) (by kernel_rfl) eqs_ok (fun n => h20_g impl_Form_disc impl_root impl_in impl_size n) (by delta h20_b impl_Form_reduced; rfl) (allC h23_good (allC h19_good (allC h17_good (allC h24_good allN)))) allN

/-! loop.example/g01297/impl.reducedForms -/
def h10_t6 : Tpl := ⟨(.int .i64 :: (.any :: (.any :: (.sl 512 :: (.int .i64 :: (.int .i64 :: (.int .i64 :: (anyN 47 [])))))))), [(512, .rows 2 30 .tr)], [], false⟩
def h10_p6 : PcS := loopS [.int, .int, .int, .int, .rows .tr] [2]
def h10_t3 : Tpl := ⟨(.int .i64 :: (.any :: (.any :: (.sl 512 :: (.int .i64 :: (.int .i64 :: (anyN 48 []))))))), [(512, .rows 2 30 .tr)], [], false⟩
def h10_p3 : PcS := loopS [.int, .int, .int, .rows .tr] [0]
abbrev h10_x {α : Type} (F0 : T2 α) (F1 : T1 α) (G6 : T17 α) (G3 : T18 α) : Nat → Ctx α := ctxS false M eqs jt0 [⟨19, S1, F0⟩, ⟨20, S11, F1⟩] [lpT 6 h10_t6 h10_p6 R4 G6, lpT 3 h10_t3 h10_p3 R4 G3]
def h10_b6 {α : Type} (F1 : T1 α) (G6 : T17 α) (k : Nat) (d2 : Int) (w1 : Int) (a1 : Int) (b_ : Int) (out1 : List (Int × Int × Int)) (b2 : Int → Int → Int → Int → (List (Int × Int × Int)) → Option α) (r0 : (List (Int × Int × Int)) → Option α) : Option α :=
  bif decide (b_ ≤ w1) then
    bif (!decide (a1 = 0)) then
      bif decide ((w64 (4 * a1)) = 0) then
        none
      else
      bif (!decide ((Int.tmod (w64 ((w64 (b_ * b_)) - d2)) (w64 (4 * a1))) = 0)) then
        G6 k d2 w1 a1 (w64 (b_ + 1)) out1 b2 r0
      else
      bif decide ((w64 (4 * a1)) = 0) then
        none
      else
        F1 k a1 b_ (w64 (Int.tdiv (w64 ((w64 (b_ * b_)) - d2)) (w64 (4 * a1)))) fun v1 =>
        bif v1 then
          bif decide (((List.length out1) + 1) ≤ big) then
            G6 k d2 w1 a1 (w64 (b_ + 1)) (out1 ++ [(a1, b_, (w64 (Int.tdiv (w64 ((w64 (b_ * b_)) - d2)) (w64 (4 * a1)))))]) b2 r0
          else
            none
        else
          G6 k d2 w1 a1 (w64 (b_ + 1)) out1 b2 r0
    else
      b2 d2 w1 a1 b_ out1
  else
    b2 d2 w1 a1 b_ out1
theorem h10_g6 {α : Type} (F0 : T2 α) (F1 : T1 α) (G6 : T17 α) (G3 : T18 α) (n : Nat) : GenL (α := α) Try.prog Try.f10 S12 (h10_x F0 F1 G6 G3 n) 6 h10_t6 h10_p6 n G6 (h10_b6 F1 G6) := by intro _ _ _ _ _ _ _; kernel_rfl
def h10_b3 {α : Type} (G6 : T17 α) (G3 : T18 α) (k : Nat) (d1 : Int) (w : Int) (a : Int) (out : List (Int × Int × Int)) (b0 : Int → Int → Int → (List (Int × Int × Int)) → Option α) (r0 : (List (Int × Int × Int)) → Option α) : Option α :=
  bif decide (a ≤ w) then
    G6 k d1 w a 1 out
      (fun d3 w2 a2 _ out2 =>
        G3 k d3 w2 (w64 (a2 + 1)) out2 b0 r0)
      r0
  else
    b0 d1 w a out
theorem h10_g3 {α : Type} (F0 : T2 α) (F1 : T1 α) (G6 : T17 α) (G3 : T18 α) (n : Nat) : GenL (α := α) Try.prog Try.f10 S12 (h10_x F0 F1 G6 G3 n) 3 h10_t3 h10_p3 n G3 (h10_b3 G6 G3) := by intro _ _ _ _ _ _; kernel_rfl
def h10_b {α : Type} (F0 : T2 α) (G3 : T18 α) (k : Nat) (d : Int) (r0 : (List (Int × Int × Int)) → Option α) : Option α :=
  F0 k d fun v =>
  G3 k d v (w64 (0 - v)) []
    (fun _ _ _ out3 =>
      r0 out3)
    r0
theorem h10_g {α : Type} (F0 : T2 α) (F1 : T1 α) (G6 : T17 α) (G3 : T18 α) (n : Nat) : GenF (α := α) Try.prog Try.f10 S12 (h10_x F0 F1 G6 G3 n) n (h10_b F0 G3) := by intro _ _; kernel_rfl
theorem h10_good {α : Type} : ∀ n, GoodFn (α := α) Try.prog 10 (byShape S12.sh (callS S12 impl_reducedForms n)) := good_of Try.func10 (by kernel_rfl) (by kernel_rfl) (by kernel_rfl) eqs_ok (fun n => h10_g impl_root impl_Form_reduced impl_reducedForms_l6 impl_reducedForms_l3 n) (by delta h10_b impl_reducedForms; rfl) (allC h19_good (allC h20_good allN)) (allC (loop_fine (by kernel_rfl) (fun n => by delta h10_b6; funext _ _ _ _ _ _ _; exact (impl_reducedForms_l6.eq_2 ..).symm) (fun n => h10_g6 impl_root impl_Form_reduced impl_reducedForms_l6 impl_reducedForms_l3 n)) (allC (loop_fine (by kernel_rfl) (fun n => by delta h10_b3; funext _ _ _ _ _ _; exact (impl_reducedForms_l3.eq_2 ..).symm) (fun n => h10_g3 impl_root impl_Form_reduced impl_reducedForms_l6 impl_reducedForms_l3 n)) allN))

/-! loop.example/g01297/impl.floor -/
abbrev h26_x {α : Type}  : Nat → Ctx α := ctxS false M eqs jt0 [] []
def h26_b {α : Type}  (_ : Nat) (a : Int) (b_ : Int) (r0 : Int → Option α) : Option α :=
  bif decide (b_ = 0) then
    none
  else
  bif decide (b_ = 0) then
    none
  else
  bif (!decide ((Int.tmod a b_) = 0)) then
    bif (!(decide (a < 0) == decide (b_ < 0))) then
      r0 (w64 ((w64 (Int.tdiv a b_)) - 1))
    else
      r0 (w64 (Int.tdiv a b_))
  else
    r0 (w64 (Int.tdiv a b_))
theorem h26_g {α : Type}  (n : Nat) : GenF (α := α) Try.prog Try.f26 S6 (h26_x n) n (h26_b) := by intro _ _ _; kernel_rfl
theorem h26_good {α : Type} : ∀ n, GoodFn (α := α) Try.prog 26 (byShape S6.sh (callS S6 impl_floor n)) := good_of Try.func26 (by kernel_rfl) (by kernel_rfl) (by kernel_rfl) eqs_ok (fun n => h26_g n) (by delta h26_b impl_floor; rfl) allN allN

/-! loop.example/g01297/impl.mod -/
abbrev h25_x {α : Type} (F0 : T7 α) : Nat → Ctx α := ctxS false M eqs jt0 [⟨26, S6, F0⟩] []
def h25_b {α : Type} (F0 : T7 α) (k : Nat) (a : Int) (b_ : Int) (r0 : Int → Option α) : Option α :=
  F0 k a b_ fun v =>
  r0 (w64 (a - (w64 (b_ * v))))
theorem h25_g {α : Type} (F0 : T7 α) (n : Nat) : GenF (α := α) Try.prog Try.f25 S6 (h25_x F0 n) n (h25_b F0) := by intro _ _ _; kernel_rfl
theorem h25_good {α : Type} : ∀ n, GoodFn (α := α) Try.prog 25 (byShape S6.sh (callS S6 impl_mod n)) := good_of Try.func25 (by kernel_rfl) (by kernel_rfl) (by kernel_rfl) eqs_ok (fun n => h25_g impl_floor n) (by delta h25_b impl_mod; rfl) (allC h26_good allN) allN

/-! (loop.example/g01297/impl.Form).next -/
abbrev h21_x {α : Type} (F0 : T8 α) (F1 : T2 α) (F2 : T2 α) (F3 : T7 α) : Nat → Ctx α := ctxS false M eqs jt0 [⟨23, S5, F0⟩, ⟨24, S1, F1⟩, ⟨19, S1, F2⟩, ⟨25, S6, F3⟩] []
def h21_b {α : Type} (F0 : T8 α) (F1 : T2 α) (F2 : T2 α) (F3 : T7 α) (k : Nat) (x : Int) (x1 : Int) (x2 : Int) (r0 : Int → Int → Int → Option α) : Option α :=
  F0 k x x1 x2 fun v =>
  F1 k x2 fun v1 =>
  F2 k v fun v2 =>
  bif decide (v2 < v1) then
    F3 k (w64 ((w64 (0 - x1)) - (w64 (1 - v1)))) (w64 (2 * v1)) fun v3 =>
    bif decide ((w64 (4 * x2)) = 0) then
      none
    else
      r0 x2 (w64 ((w64 (1 - v1)) + v3)) (w64 (Int.tdiv (w64 ((w64 ((w64 ((w64 (1 - v1)) + v3)) * (w64 ((w64 (1 - v1)) + v3)))) - v)) (w64 (4 * x2))))
  else
    F3 k (w64 ((w64 (0 - x1)) - (w64 ((w64 (v2 - (w64 (2 * v1)))) + 1)))) (w64 (2 * v1)) fun v4 =>
    bif decide ((w64 (4 * x2)) = 0) then
      none
    else
      r0 x2 (w64 ((w64 ((w64 (v2 - (w64 (2 * v1)))) + 1)) + v4)) (w64 (Int.tdiv (w64 ((w64 ((w64 ((w64 ((w64 (v2 - (w64 (2 * v1)))) + 1)) + v4)) * (w64 ((w64 ((w64 (v2 - (w64 (2 * v1)))) + 1)) + v4)))) - v)) (w64 (4 * x2))))
theorem h21_g {α : Type} (F0 : T8 α) (F1 : T2 α) (F2 : T2 α) (F3 : T7 α) (n : Nat) : GenF (α := α) Try.prog Try.f21 S13 (h21_x F0 F1 F2 F3 n) n (h21_b F0 F1 F2 F3) := by intro _ _ _ _; kernel_rfl
theorem h21_good {α : Type} : ∀ n, GoodFn (α := α) Try.prog 21 (byShape S13.sh (callS S13 impl_Form_next n)) := good_of Try.func21 (by kernel_rfl) (by kernel_rfl) (by kernel_rfl) eqs_ok (fun n => h21_g impl_Form_disc impl_size impl_root impl_mod n) (by delta h21_b impl_Form_next; rfl) (allC h23_good (allC h24_good (allC h19_good (allC h25_good allN)))) allN

/-! (loop.example/g01297/impl.Form).cycle -/
def h11_t1 : Tpl := ⟨(.any :: (.ptr 64 0 0 :: (anyN 23 []))), [(64, .ints 2 30 .i64 3)], [], false⟩
def h11_p1 : PcS := loopS [.int, .int, .int] [0]
def h11_t5 : Tpl := ⟨(.any :: (.ptr 64 0 0 :: (.any :: (.sl 704 :: (.ptr 256 0 0 :: (anyN 20 [])))))), [(64, .ints 2 30 .i64 3), (704, .rows 2 30 .tr), (256, .ints 2 30 .i64 3)], [], false⟩
def h11_p5 : PcS := loopS [.int, .int, .int, .rows .tr, .int, .int, .int] [2]
abbrev h11_x {α : Type} (F0 : T1 α) (F1 : T19 α) (G1 : T20 α) (G5 : T21 α) : Nat → Ctx α := ctxS false M eqs jt0 [⟨20, S11, F0⟩, ⟨21, S13, F1⟩] [lpT 1 h11_t1 h11_p1 R4 G1, lpT 5 h11_t5 h11_p5 R4 G5]
def h11_b1 {α : Type} (F0 : T1 α) (F1 : T19 α) (G1 : T20 α) (k : Nat) (x3 : Int) (x4 : Int) (x5 : Int) (b0 : Int → Int → Int → Option α) (r0 : (List (Int × Int × Int)) → Option α) : Option α :=
  F0 k x3 x4 x5 fun v =>
  bif (!v) then
    F1 k x3 x4 x5 fun v1 v2 v3 =>
    G1 k v1 v2 v3 b0 r0
  else
    b0 x3 x4 x5
theorem h11_g1 {α : Type} (F0 : T1 α) (F1 : T19 α) (G1 : T20 α) (G5 : T21 α) (n : Nat) : GenL (α := α) Try.prog Try.f11 S8 (h11_x F0 F1 G1 G5 n) 1 h11_t1 h11_p1 n G1 (h11_b1 F0 F1 G1) := by intro _ _ _ _ _; kernel_rfl
def h11_b5 {α : Type} (F1 : T19 α) (G5 : T21 α) (k : Nat) (x9 : Int) (x10 : Int) (x11 : Int) (out : List (Int × Int × Int)) (y : Int) (y1 : Int) (y2 : Int) (b2 : Int → Int → Int → (List (Int × Int × Int)) → Int → Int → Int → Option α) (r0 : (List (Int × Int × Int)) → Option α) : Option α :=
  bif (!(decide (y = x9) && (decide (y1 = x10) && decide (y2 = x11)))) then
    bif decide (((List.length out) + 1) ≤ big) then
      F1 k y y1 y2 fun v7 v8 v9 =>
      G5 k x9 x10 x11 (out ++ [(y, y1, y2)]) v7 v8 v9 b2 r0
    else
      none
  else
    b2 x9 x10 x11 out y y1 y2
theorem h11_g5 {α : Type} (F0 : T1 α) (F1 : T19 α) (G1 : T20 α) (G5 : T21 α) (n : Nat) : GenL (α := α) Try.prog Try.f11 S8 (h11_x F0 F1 G1 G5 n) 5 h11_t5 h11_p5 n G5 (h11_b5 F1 G5) := by intro _ _ _ _ _ _ _ _ _; kernel_rfl
def h11_b {α : Type} (F1 : T19 α) (G1 : T20 α) (G5 : T21 α) (k : Nat) (x : Int) (x1 : Int) (x2 : Int) (r0 : (List (Int × Int × Int)) → Option α) : Option α :=
  G1 k x x1 x2
    (fun x6 x7 x8 =>
      F1 k x6 x7 x8 fun v4 v5 v6 =>
      G5 k x6 x7 x8 [(x6, x7, x8)] v4 v5 v6
        (fun _ _ _ out1 _ _ _ =>
          r0 out1)
        r0)
    r0
theorem h11_g {α : Type} (F0 : T1 α) (F1 : T19 α) (G1 : T20 α) (G5 : T21 α) (n : Nat) : GenF (α := α) Try.prog Try.f11 S8 (h11_x F0 F1 G1 G5 n) n (h11_b F1 G1 G5) := by intro _ _ _ _; kernel_rfl
theorem h11_good {α : Type} : ∀ n, GoodFn (α := α) Try.prog 11 (byShape S8.sh (callS S8 impl_Form_cycle n)) := good_of Try.func11 (by kernel_rfl) (by kernel_rfl) (by kernel_rfl) eqs_ok (fun n => h11_g impl_Form_reduced impl_Form_next impl_Form_cycle_l1 impl_Form_cycle_l5 n) (by delta h11_b impl_Form_cycle; rfl) (allC h20_good (allC h21_good allN)) (allC (loop_fine (by kernel_rfl) (fun n => by delta h11_b1; funext _ _ _ _ _; exact (impl_Form_cycle_l1.eq_2 ..).symm) (fun n => h11_g1 impl_Form_reduced impl_Form_next impl_Form_cycle_l1 impl_Form_cycle_l5 n)) (allC (loop_fine (by kernel_rfl) (fun n => by delta h11_b5; funext _ _ _ _ _ _ _ _ _; exact (impl_Form_cycle_l5.eq_2 ..).symm) (fun n => h11_g5 impl_Form_reduced impl_Form_next impl_Form_cycle_l1 impl_Form_cycle_l5 n)) allN))

/-! loop.example/g01297/impl.ClassNumber -/
def h5_t11 : Tpl := ⟨(anyN 5 (.int .i64 :: (.map 1024 :: (anyN 11 (.sl 1152 :: (.int .i64 :: (.int .i64 :: (anyN 9 (.sl 1920 :: (.int .i64 :: (.int .i64 :: (anyN 8 [])))))))))))), [(1024, .map 33 .tr .bool), (1152, .rows 2 30 .tr), (1920, .rows 2 30 .tr)], [], false⟩
def h5_p11 : PcS := loopS [.int, .int, .int, .int, .int, .rows .tr, .rows .bool, .rows .tr, .rows .tr] [2]
def h5_t6 : Tpl := ⟨(anyN 5 (.int .i64 :: (.map 1024 :: (anyN 11 (.sl 1152 :: (.int .i64 :: (.int .i64 :: (anyN 20 [])))))))), [(1024, .map 33 .tr .bool), (1152, .rows 2 30 .tr)], [], false⟩
def h5_p6 : PcS := loopS [.int, .int, .int, .rows .tr, .rows .bool, .rows .tr] [0]
abbrev h5_x {α : Type} (F0 : T2 α) (F1 : T22 α) (F2 : T14 α) (G11 : T23 α) (G6 : T24 α) : Nat → Ctx α := ctxS false M eqs jt0 [⟨9, S1, F0⟩, ⟨10, S12, F1⟩, ⟨11, S8, F2⟩] [lpT 11 h5_t11 h5_p11 R5 G11, lpT 6 h5_t6 h5_p6 R5 G6]
def h5_b11 {α : Type} (G11 : T23 α) (k : Nat) (many1 : Int) (x3 : Int) (x4 : Int) (x5 : Int) (x6 : Int) (seen2 : List (Int × Int × Int)) (seen3 : List Bool) (x7 : List (Int × Int × Int)) (x8 : List (Int × Int × Int)) (b2 : Int → Int → Int → Int → Int → (List (Int × Int × Int)) → List Bool → (List (Int × Int × Int)) → (List (Int × Int × Int)) → Option α) (r0 : Int → Int → Option α) : Option α :=
  bif decide (x6 < x5) then
    bif (decide (0 ≤ x6) && decide (x6 < (((List.length x8) : Nat) : Int))) then
      (x8[x6.toNat]?).bind fun e_1 =>
      G11 k many1 x3 x4 x5 (w64 (x6 + 1)) (putK .tr seen2 (e_1.1, e_1.2.1, e_1.2.2)) (putV .tr .bool seen2 seen3 (e_1.1, e_1.2.1, e_1.2.2) true) x7 x8 b2 r0
    else
      none
  else
    b2 many1 x3 x4 x5 x6 seen2 seen3 x7 x8
theorem h5_g11 {α : Type} (F0 : T2 α) (F1 : T22 α) (F2 : T14 α) (G11 : T23 α) (G6 : T24 α) (n : Nat) : GenL (α := α) Try.prog Try.f5 S9 (h5_x F0 F1 F2 G11 G6 n) 11 h5_t11 h5_p11 n G11 (h5_b11 G11) := by intro _ _ _ _ _ _ _ _ _ _ _; kernel_rfl
def h5_b6 {α : Type} (F2 : T14 α) (G11 : T23 α) (G6 : T24 α) (k : Nat) (many : Int) (x : Int) (x1 : Int) (seen : List (Int × Int × Int)) (seen1 : List Bool) (x2 : List (Int × Int × Int)) (b0 : Int → Int → Int → (List (Int × Int × Int)) → List Bool → (List (Int × Int × Int)) → Option α) (r0 : Int → Int → Option α) : Option α :=
  bif decide (x1 < x) then
    bif (decide (0 ≤ x1) && decide (x1 < (((List.length x2) : Nat) : Int))) then
      (x2[x1.toNat]?).bind fun e_ =>
      (getM .tr .bool seen seen1 (e_.1, e_.2.1, e_.2.2) false : Bool) |> fun (g : Bool) =>
      bif g then
        G6 k many x (w64 (x1 + 1)) seen seen1 x2 b0 r0
      else
        F2 k e_.1 e_.2.1 e_.2.2 fun v2 =>
        G11 k (w64 (many + 1)) x x1 (((List.length v2) : Nat) : Int) 0 seen seen1 x2 v2
          (fun many2 x9 x10 _ _ seen4 seen5 x13 _ =>
            G6 k many2 x9 (w64 (x10 + 1)) seen4 seen5 x13 b0 r0)
          r0
    else
      none
  else
    b0 many x x1 seen seen1 x2
theorem h5_g6 {α : Type} (F0 : T2 α) (F1 : T22 α) (F2 : T14 α) (G11 : T23 α) (G6 : T24 α) (n : Nat) : GenL (α := α) Try.prog Try.f5 S9 (h5_x F0 F1 F2 G11 G6 n) 6 h5_t6 h5_p6 n G6 (h5_b6 F2 G11 G6) := by intro _ _ _ _ _ _ _ _; kernel_rfl
def h5_b {α : Type} (F0 : T2 α) (F1 : T22 α) (G6 : T24 α) (k : Nat) (d : Int) (r0 : Int → Int → Option α) : Option α :=
  F0 k d fun v =>
  bif (!decide (v = 0)) then
    r0 0 v
  else
    F1 k d fun v1 =>
    G6 k 0 (((List.length v1) : Nat) : Int) 0 [] [] v1
      (fun many3 _ _ _ _ _ =>
        r0 many3 0)
      r0
theorem h5_g {α : Type} (F0 : T2 α) (F1 : T22 α) (F2 : T14 α) (G11 : T23 α) (G6 : T24 α) (n : Nat) : GenF (α := α) Try.prog Try.f5 S9 (h5_x F0 F1 F2 G11 G6 n) n (h5_b F0 F1 G6) := by intro _ _; kernel_rfl
theorem h5_good {α : Type} : ∀ n, GoodFn (α := α) Try.prog 5 (byShape S9.sh (callS S9 impl_ClassNumber n)) := good_of Try.func5 (by kernel_rfl) (by kernel_rfl) (by kernel_rfl) eqs_ok (fun n => h5_g impl_discFault impl_reducedForms impl_Form_cycle impl_ClassNumber_l11 impl_ClassNumber_l6 n) (by delta h5_b impl_ClassNumber; rfl) (allC h9_good (allC h10_good (allC h11_good allN))) (allC (loop_fine (by kernel_rfl) (fun n => by delta h5_b11; funext _ _ _ _ _ _ _ _ _ _ _; exact (impl_ClassNumber_l11.eq_2 ..).symm) (fun n => h5_g11 impl_discFault impl_reducedForms impl_Form_cycle impl_ClassNumber_l11 impl_ClassNumber_l6 n)) (allC (loop_fine (by kernel_rfl) (fun n => by delta h5_b6; funext _ _ _ _ _ _ _ _; exact (impl_ClassNumber_l6.eq_2 ..).symm) (fun n => h5_g6 impl_discFault impl_reducedForms impl_Form_cycle impl_ClassNumber_l11 impl_ClassNumber_l6 n)) allN))

end Go.Proofs.Ytoejoijickfgaaa
