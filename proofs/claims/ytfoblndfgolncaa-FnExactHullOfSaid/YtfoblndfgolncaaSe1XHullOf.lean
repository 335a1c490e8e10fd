/- The program's functions hold to their readings without memory: printed by a program of ours. -/
import Derived.Test.YtfoblndfgolncaaSeXHullOf
namespace Go.Proofs.Ytfoblndfgolncaa
open Go Go.Ev Go.Sh Go.Proofs

/-! loop.example/g01297/laws.szPointS -/
abbrev h4_x {α : Type}  : Nat → Ctx α := ctxS false M eqs jt0 [] []
def h4_b {α : Type}  (_ : Nat) (a : List (Int × Int)) (left : Int) (r0 : Int → Option α) : Option α :=
  bif decide ((w64 (left - (((List.length a) : Nat) : Int))) < 0) then
    r0 (-1)
  else
    r0 (w64 (left - (((List.length a) : Nat) : Int)))
theorem h4_g {α : Type}  (n : Nat) : GenF (α := α) Try.prog Try.f4 S0 (h4_x n) n (h4_b) := by intro _ _ _; kernel_rfl
theorem h4_good {α : Type} : ∀ n, GoodFn (α := α) Try.prog 4 (byShape S0.sh (callS S0 laws_szPointS n)) := good_of Try.func4 (by kernel_rfl) (by kernel_rfl) (by kernel_rfl) eqs_ok (fun n => h4_g n) (by delta h4_b laws_szPointS; rfl) allN allN

/-! loop.example/g01297/laws.toPoint -/
abbrev h13_x {α : Type}  : Nat → Ctx α := ctxS false M eqs jt0 [] []
def h13_b {α : Type}  (_ : Nat) (a : Int) (a1 : Int) (r0 : Int → Int → Option α) : Option α :=
  r0 a a1
theorem h13_g {α : Type}  (n : Nat) : GenF (α := α) Try.prog Try.f13 S1 (h13_x n) n (h13_b) := by intro _ _ _; kernel_rfl
theorem h13_good {α : Type} : ∀ n, GoodFn (α := α) Try.prog 13 (byShape S1.sh (callS S1 laws_toPoint n)) := good_of Try.func13 (by kernel_rfl) (by kernel_rfl) (by kernel_rfl) eqs_ok (fun n => h13_g n) (by delta h13_b laws_toPoint; rfl) allN allN

/-! loop.example/g01297/laws.toPointS -/
def h6_t3 : Tpl := ⟨(.sl 0 :: (.any :: (.any :: (.sl 448 :: (.int .i64 :: (anyN 18 [])))))), [(0, .rows 0 32 .pt), (448, .rows 2 33 .pt)], [], false⟩
def h6_p3 : PcS := loopS [.int, .rows .pt, .rows .pt] [0]
abbrev h6_x {α : Type} (F0 : T0 α) (G3 : T1 α) : Nat → Ctx α := ctxS false M eqs jt0 [⟨13, S1, F0⟩] [lpT 3 h6_t3 h6_p3 R2 G3]
def h6_b3 {α : Type} (F0 : T0 α) (G3 : T1 α) (k : Nat) (i : Int) (a1 : List (Int × Int)) (out : List (Int × Int)) (b0 : Int → (List (Int × Int)) → (List (Int × Int)) → Option α) (r0 : (List (Int × Int)) → Option α) : Option α :=
  bif decide (i < (((List.length a1) : Nat) : Int)) then
    bif (decide (0 ≤ i) && decide (i < (((List.length a1) : Nat) : Int))) then
      (a1[i.toNat]?).bind fun e_ =>
      F0 k e_.1 e_.2 fun v v1 =>
      bif (decide (0 ≤ i) && decide (i < (((List.length out) : Nat) : Int))) then
        (out[i.toNat]?).bind fun _ =>
        G3 k (w64 (i + 1)) a1 (List.set out i.toNat (v, v1)) b0 r0
      else
        none
    else
      none
  else
    b0 i a1 out
theorem h6_g3 {α : Type} (F0 : T0 α) (G3 : T1 α) (n : Nat) : GenL (α := α) Try.prog Try.f6 S2 (h6_x F0 G3 n) 3 h6_t3 h6_p3 n G3 (h6_b3 F0 G3) := by intro _ _ _ _ _; kernel_rfl
def h6_b {α : Type} (G3 : T1 α) (k : Nat) (a : List (Int × Int)) (r0 : (List (Int × Int)) → Option α) : Option α :=
  bif (decide (0 ≤ (((List.length a) : Nat) : Int)) && decide ((((List.length a) : Nat) : Int) ≤ (big : Int))) then
    G3 k 0 a (List.replicate (((List.length a) : Nat) : Int).toNat (0, 0))
      (fun _ _ out1 =>
        r0 out1)
      r0
  else
    none
theorem h6_g {α : Type} (F0 : T0 α) (G3 : T1 α) (n : Nat) : GenF (α := α) Try.prog Try.f6 S2 (h6_x F0 G3 n) n (h6_b G3) := by intro _ _; kernel_rfl
theorem h6_good {α : Type} : ∀ n, GoodFn (α := α) Try.prog 6 (byShape S2.sh (callS S2 laws_toPointS n)) := good_of Try.func6 (by kernel_rfl) (by kernel_rfl) (by kernel_rfl) eqs_ok (fun n => h6_g laws_toPoint laws_toPointS_l3 n) (by delta h6_b laws_toPointS; rfl) (allC h13_good allN) (allC (loop_fine (by kernel_rfl) (fun n => by delta h6_b3; funext _ _ _ _ _; exact (laws_toPointS_l3.eq_2 ..).symm) (fun n => h6_g3 laws_toPoint laws_toPointS_l3 n)) allN)

/-! loop.example/g01297/spec.l01In -/
abbrev h36_x {α : Type}  : Nat → Ctx α := ctxS false M eqs jt0 [] []
def h36_b {α : Type}  (_ : Nat) (n_ : Int) (low : Int) (high : Int) (r0 : Bool → Option α) : Option α :=
  bif decide (low ≤ n_) then
    r0 (decide (n_ ≤ high))
  else
    r0 false
theorem h36_g {α : Type}  (n : Nat) : GenF (α := α) Try.prog Try.f36 S3 (h36_x n) n (h36_b) := by intro _ _ _ _; kernel_rfl
theorem h36_good {α : Type} : ∀ n, GoodFn (α := α) Try.prog 36 (byShape S3.sh (callS S3 spec_l01In n)) := good_of Try.func36 (by kernel_rfl) (by kernel_rfl) (by kernel_rfl) eqs_ok (fun n => h36_g n) (by delta h36_b spec_l01In; rfl) allN allN

/-! loop.example/g01297/spec.l01Fits -/
abbrev h51_x {α : Type} (F0 : T2 α) : Nat → Ctx α := ctxS false M eqs jt0 [⟨36, S3, F0⟩] []
def h51_b {α : Type} (F0 : T2 α) (k : Nat) (x : Int) (r0 : Bool → Option α) : Option α :=
  F0 k x (-1000000) 1000000 fun v =>
  r0 v
theorem h51_g {α : Type} (F0 : T2 α) (n : Nat) : GenF (α := α) Try.prog Try.f51 S4 (h51_x F0 n) n (h51_b F0) := by intro _ _; kernel_rfl
theorem h51_good {α : Type} : ∀ n, GoodFn (α := α) Try.prog 51 (byShape S4.sh (callS S4 spec_l01Fits n)) := good_of Try.func51 (by kernel_rfl) (by kernel_rfl) (by kernel_rfl) eqs_ok (fun n => h51_g spec_l01In n) (by delta h51_b spec_l01Fits; rfl) (allC h36_good allN) allN

/-! loop.example/g01297/spec.l01Is -/
abbrev h31_x {α : Type} (F0 : T3 α) : Nat → Ctx α := ctxS false M eqs jt0 [⟨51, S4, F0⟩] []
def h31_b {α : Type} (F0 : T3 α) (k : Nat) (a : Int) (a1 : Int) (r0 : Bool → Option α) : Option α :=
  F0 k a fun v =>
  bif v then
    F0 k a1 fun v1 =>
    r0 v1
  else
    r0 false
theorem h31_g {α : Type} (F0 : T3 α) (n : Nat) : GenF (α := α) Try.prog Try.f31 S5 (h31_x F0 n) n (h31_b F0) := by intro _ _ _; kernel_rfl
theorem h31_good {α : Type} : ∀ n, GoodFn (α := α) Try.prog 31 (byShape S5.sh (callS S5 spec_l01Is n)) := good_of Try.func31 (by kernel_rfl) (by kernel_rfl) (by kernel_rfl) eqs_ok (fun n => h31_g spec_l01Fits n) (by delta h31_b spec_l01Is; rfl) (allC h51_good allN) allN

/-! loop.example/g01297/spec.l01Code -/
def h17_t2 : Tpl := ⟨(.sl 0 :: (.any :: (.any :: (.int .i64 :: (anyN 12 []))))), [(0, .rows 0 33 .pt)], [], false⟩
def h17_p2 : PcS := loopS [.int, .rows .pt] [0]
abbrev h17_x {α : Type} (F0 : T4 α) (G2 : T5 α) : Nat → Ctx α := ctxS false M eqs jt0 [⟨31, S5, F0⟩] [lpT 2 h17_t2 h17_p2 R0 G2]
def h17_b2 {α : Type} (F0 : T4 α) (G2 : T5 α) (k : Nat) (i : Int) (list1 : List (Int × Int)) (b0 : Int → (List (Int × Int)) → Option α) (r0 : Int → Option α) : Option α :=
  bif decide (i < (((List.length list1) : Nat) : Int)) then
    bif (decide (0 ≤ i) && decide (i < (((List.length list1) : Nat) : Int))) then
      (list1[i.toNat]?).bind fun e_ =>
      F0 k e_.1 e_.2 fun v =>
      bif (!v) then
        r0 1
      else
        G2 k (w64 (i + 1)) list1 b0 r0
    else
      none
  else
    b0 i list1
theorem h17_g2 {α : Type} (F0 : T4 α) (G2 : T5 α) (n : Nat) : GenL (α := α) Try.prog Try.f17 S6 (h17_x F0 G2 n) 2 h17_t2 h17_p2 n G2 (h17_b2 F0 G2) := by intro _ _ _ _; kernel_rfl
def h17_b {α : Type} (G2 : T5 α) (k : Nat) (list : List (Int × Int)) (r0 : Int → Option α) : Option α :=
  G2 k 0 list
    (fun _ _ =>
      r0 0)
    r0
theorem h17_g {α : Type} (F0 : T4 α) (G2 : T5 α) (n : Nat) : GenF (α := α) Try.prog Try.f17 S6 (h17_x F0 G2 n) n (h17_b G2) := by intro _ _; kernel_rfl
theorem h17_good {α : Type} : ∀ n, GoodFn (α := α) Try.prog 17 (byShape S6.sh (callS S6 spec_l01Code n)) := good_of Try.func17 (by kernel_rfl) (by kernel_rfl) (by kernel_rfl) eqs_ok (fun n => h17_g spec_l01Is spec_l01Code_l2 n) (by delta h17_b spec_l01Code; rfl) (allC h31_good allN) (allC (loop_fine (by kernel_rfl) (fun n => by delta h17_b2; funext _ _ _ _; exact (spec_l01Code_l2.eq_2 ..).symm) (fun n => h17_g2 spec_l01Is spec_l01Code_l2 n)) allN)

/-! loop.example/g01297/spec.l01Points -/
abbrev h11_x {α : Type} (F0 : T6 α) : Nat → Ctx α := ctxS false M eqs jt0 [⟨17, S6, F0⟩] []
def h11_b {α : Type} (F0 : T6 α) (k : Nat) (list : List (Int × Int)) (r0 : Int → Option α) : Option α :=
  F0 k list fun v =>
  bif (!decide (v = 0)) then
    r0 v
  else
  bif decide (100 < (((List.length list) : Nat) : Int)) then
    r0 2
  else
    r0 0
theorem h11_g {α : Type} (F0 : T6 α) (n : Nat) : GenF (α := α) Try.prog Try.f11 S6 (h11_x F0 n) n (h11_b F0) := by intro _ _; kernel_rfl
theorem h11_good {α : Type} : ∀ n, GoodFn (α := α) Try.prog 11 (byShape S6.sh (callS S6 spec_l01Points n)) := good_of Try.func11 (by kernel_rfl) (by kernel_rfl) (by kernel_rfl) eqs_ok (fun n => h11_g spec_l01Code n) (by delta h11_b spec_l01Points; rfl) (allC h17_good allN) allN

/-! loop.example/g01297/spec.l09Before -/
abbrev h32_x {α : Type}  : Nat → Ctx α := ctxS false M eqs jt0 [] []
def h32_b {α : Type}  (_ : Nat) (a : Int) (a1 : Int) (b_ : Int) (b_1 : Int) (r0 : Bool → Option α) : Option α :=
  bif decide (a < b_) then
    r0 true
  else
  bif decide (a = b_) then
    r0 (decide (a1 < b_1))
  else
    r0 false
theorem h32_g {α : Type}  (n : Nat) : GenF (α := α) Try.prog Try.f32 S7 (h32_x n) n (h32_b) := by intro _ _ _ _ _; kernel_rfl
theorem h32_good {α : Type} : ∀ n, GoodFn (α := α) Try.prog 32 (byShape S7.sh (callS S7 spec_l09Before n)) := good_of Try.func32 (by kernel_rfl) (by kernel_rfl) (by kernel_rfl) eqs_ok (fun n => h32_g n) (by delta h32_b spec_l09Before; rfl) allN allN

/-! loop.example/g01297/spec.l01Plus -/
abbrev h34_x {α : Type}  : Nat → Ctx α := ctxS false M eqs jt0 [] []
def h34_b {α : Type}  (_ : Nat) (a : Int) (a1 : Int) (b_ : Int) (b_1 : Int) (k_ : Int) (r0 : Int → Int → Option α) : Option α :=
  r0 (w64 (a + (w64 (k_ * b_)))) (w64 (a1 + (w64 (k_ * b_1))))
theorem h34_g {α : Type}  (n : Nat) : GenF (α := α) Try.prog Try.f34 S8 (h34_x n) n (h34_b) := by intro _ _ _ _ _ _; kernel_rfl
theorem h34_good {α : Type} : ∀ n, GoodFn (α := α) Try.prog 34 (byShape S8.sh (callS S8 spec_l01Plus n)) := good_of Try.func34 (by kernel_rfl) (by kernel_rfl) (by kernel_rfl) eqs_ok (fun n => h34_g n) (by delta h34_b spec_l01Plus; rfl) allN allN

/-! loop.example/g01297/spec.l01Det -/
abbrev h33_x {α : Type}  : Nat → Ctx α := ctxS false M eqs jt0 [] []
def h33_b {α : Type}  (_ : Nat) (a : Int) (a1 : Int) (b_ : Int) (b_1 : Int) (r0 : Int → Option α) : Option α :=
  r0 (w64 ((w64 (a * b_1)) - (w64 (a1 * b_))))
theorem h33_g {α : Type}  (n : Nat) : GenF (α := α) Try.prog Try.f33 S9 (h33_x n) n (h33_b) := by intro _ _ _ _ _; kernel_rfl
theorem h33_good {α : Type} : ∀ n, GoodFn (α := α) Try.prog 33 (byShape S9.sh (callS S9 spec_l01Det n)) := good_of Try.func33 (by kernel_rfl) (by kernel_rfl) (by kernel_rfl) eqs_ok (fun n => h33_g n) (by delta h33_b spec_l01Det; rfl) allN allN

/-! loop.example/g01297/spec.l09Far -/
abbrev h35_x {α : Type}  : Nat → Ctx α := ctxS false M eqs jt0 [] []
def h35_b {α : Type}  (_ : Nat) (a : Int) (a1 : Int) (b_ : Int) (b_1 : Int) (r0 : Int → Option α) : Option α :=
  r0 (w64 ((max (w64 (b_ - a)) (w64 (0 - (w64 (b_ - a))))) + (max (w64 (b_1 - a1)) (w64 (0 - (w64 (b_1 - a1)))))))
theorem h35_g {α : Type}  (n : Nat) : GenF (α := α) Try.prog Try.f35 S9 (h35_x n) n (h35_b) := by intro _ _ _ _ _; kernel_rfl
theorem h35_good {α : Type} : ∀ n, GoodFn (α := α) Try.prog 35 (byShape S9.sh (callS S9 spec_l09Far n)) := good_of Try.func35 (by kernel_rfl) (by kernel_rfl) (by kernel_rfl) eqs_ok (fun n => h35_g n) (by delta h35_b spec_l09Far; rfl) allN allN

/-! loop.example/g01297/spec.l09Hull -/
def h18_t5 : Tpl := ⟨(.sl 0 :: (.any :: (.any :: (.ptr 192 0 0 :: (.int .i64 :: (anyN 106 [])))))), [(0, .rows 0 33 .pt), (192, .ints 2 33 .i64 2)], [], false⟩
def h18_p5 : PcS := loopS [.int, .rows .pt, .int, .int] [0]
def h18_t13 : Tpl := ⟨(.sl 0 :: (.any :: (.any :: (.ptr 192 0 0 :: (.any :: (.sl 2240 :: (.ptr 384 0 0 :: (.ptr 448 0 0 :: (.bool :: (.int .i64 :: (anyN 101 []))))))))))), [(0, .rows 0 33 .pt), (192, .ints 2 33 .i64 2), (2240, .rows 2 33 .pt), (384, .ints 2 33 .i64 2), (448, .ints 2 33 .i64 2)], [], false⟩
def h18_p13 : PcS := loopS [.bool, .int, .rows .pt, .int, .int, .rows .pt, .int, .int, .int, .int] [4]
def h18_t10 : Tpl := ⟨(.sl 0 :: (.any :: (.any :: (.ptr 192 0 0 :: (.any :: (.sl 2240 :: (anyN 105 []))))))), [(0, .rows 0 33 .pt), (192, .ints 2 33 .i64 2), (2240, .rows 2 33 .pt)], [], false⟩
def h18_p10 : PcS := loopS [.rows .pt, .int, .int, .rows .pt] []
abbrev h18_x {α : Type} (F0 : T7 α) (F1 : T8 α) (F2 : T9 α) (F3 : T9 α) (G5 : T10 α) (G13 : T11 α) (G10 : T12 α) : Nat → Ctx α := ctxS false M eqs jt0 [⟨32, S7, F0⟩, ⟨34, S8, F1⟩, ⟨33, S9, F2⟩, ⟨35, S9, F3⟩] [lpT 5 h18_t5 h18_p5 R2 G5, lpT 13 h18_t13 h18_p13 R2 G13, lpT 10 h18_t10 h18_p10 R2 G10]
def h18_b5 {α : Type} (F0 : T7 α) (G5 : T10 α) (k : Nat) (i : Int) (list1 : List (Int × Int)) (first : Int) (first1 : Int) (b0 : Int → (List (Int × Int)) → Int → Int → Option α) (r0 : (List (Int × Int)) → Option α) : Option α :=
  bif decide (i < (((List.length list1) : Nat) : Int)) then
    bif (decide (0 ≤ i) && decide (i < (((List.length list1) : Nat) : Int))) then
      (list1[i.toNat]?).bind fun e_1 =>
      F0 k e_1.1 e_1.2 first first1 fun v =>
      bif v then
        bif (decide (0 ≤ i) && decide (i < (((List.length list1) : Nat) : Int))) then
          (list1[i.toNat]?).bind fun e_2 =>
          G5 k (w64 (i + 1)) list1 e_2.1 e_2.2 b0 r0
        else
          none
      else
        G5 k (w64 (i + 1)) list1 first first1 b0 r0
    else
      none
  else
    b0 i list1 first first1
theorem h18_g5 {α : Type} (F0 : T7 α) (F1 : T8 α) (F2 : T9 α) (F3 : T9 α) (G5 : T10 α) (G13 : T11 α) (G10 : T12 α) (n : Nat) : GenL (α := α) Try.prog Try.f18 S10 (h18_x F0 F1 F2 F3 G5 G13 G10 n) 5 h18_t5 h18_p5 n G5 (h18_b5 F0 G5) := by intro _ _ _ _ _ _; kernel_rfl
def h18_b13 {α : Type} (F1 : T8 α) (F2 : T9 α) (F3 : T9 α) (G13 : T11 α) (k : Nat) (found : Bool) (i2 : Int) (list4 : List (Int × Int)) (first6 : Int) (first7 : Int) (out1 : List (Int × Int)) (now : Int) (now1 : Int) (next : Int) (next1 : Int) (b4 : Bool → Int → (List (Int × Int)) → Int → Int → (List (Int × Int)) → Int → Int → Int → Int → Option α) (r0 : (List (Int × Int)) → Option α) : Option α :=
  bif decide (i2 < (((List.length list4) : Nat) : Int)) then
    bif (decide (0 ≤ i2) && decide (i2 < (((List.length list4) : Nat) : Int))) then
      (list4[i2.toNat]?).bind fun e_4 =>
      bif (decide (e_4.1 = now) && decide (e_4.2 = now1)) then
        G13 k found (w64 (i2 + 1)) list4 first6 first7 out1 now now1 next next1 b4 r0
      else
      bif (!found) then
        bif (decide (0 ≤ i2) && decide (i2 < (((List.length list4) : Nat) : Int))) then
          (list4[i2.toNat]?).bind fun e_5 =>
          G13 k true (w64 (i2 + 1)) list4 first6 first7 out1 now now1 e_5.1 e_5.2 b4 r0
        else
          none
      else
      bif (decide (0 ≤ i2) && decide (i2 < (((List.length list4) : Nat) : Int))) then
        (list4[i2.toNat]?).bind fun e_6 =>
        F1 k next next1 now now1 (-1) fun v1 v2 =>
        F1 k e_6.1 e_6.2 now now1 (-1) fun v3 v4 =>
        F2 k v1 v2 v3 v4 fun v5 =>
        bif decide (v5 < 0) then
          bif (decide (0 ≤ i2) && decide (i2 < (((List.length list4) : Nat) : Int))) then
            (list4[i2.toNat]?).bind fun e_7 =>
            G13 k found (w64 (i2 + 1)) list4 first6 first7 out1 now now1 e_7.1 e_7.2 b4 r0
          else
            none
        else
        bif decide (v5 = 0) then
          bif (decide (0 ≤ i2) && decide (i2 < (((List.length list4) : Nat) : Int))) then
            (list4[i2.toNat]?).bind fun e_8 =>
            F3 k now now1 e_8.1 e_8.2 fun v6 =>
            F3 k now now1 next next1 fun v7 =>
            bif decide (v7 < v6) then
              bif (decide (0 ≤ i2) && decide (i2 < (((List.length list4) : Nat) : Int))) then
                (list4[i2.toNat]?).bind fun e_9 =>
                G13 k found (w64 (i2 + 1)) list4 first6 first7 out1 now now1 e_9.1 e_9.2 b4 r0
              else
                none
            else
              G13 k found (w64 (i2 + 1)) list4 first6 first7 out1 now now1 next next1 b4 r0
          else
            none
        else
          G13 k found (w64 (i2 + 1)) list4 first6 first7 out1 now now1 next next1 b4 r0
      else
        none
    else
      none
  else
    b4 found i2 list4 first6 first7 out1 now now1 next next1
theorem h18_g13 {α : Type} (F0 : T7 α) (F1 : T8 α) (F2 : T9 α) (F3 : T9 α) (G5 : T10 α) (G13 : T11 α) (G10 : T12 α) (n : Nat) : GenL (α := α) Try.prog Try.f18 S10 (h18_x F0 F1 F2 F3 G5 G13 G10 n) 13 h18_t13 h18_p13 n G13 (h18_b13 F1 F2 F3 G13) := by intro _ _ _ _ _ _ _ _ _ _ _ _; kernel_rfl
def h18_b10 {α : Type} (G13 : T11 α) (G10 : T12 α) (k : Nat) (list3 : List (Int × Int)) (first4 : Int) (first5 : Int) (out : List (Int × Int)) (r0 : (List (Int × Int)) → Option α) : Option α :=
  bif (decide (0 ≤ (w64 ((((List.length out) : Nat) : Int) - 1))) && decide ((w64 ((((List.length out) : Nat) : Int) - 1)) < (((List.length out) : Nat) : Int))) then
    (out[(w64 ((((List.length out) : Nat) : Int) - 1)).toNat]?).bind fun e_3 =>
    G13 k false 0 list3 first4 first5 out e_3.1 e_3.2 0 0
      (fun found1 _ list5 first8 first9 out2 _ _ next2 next3 =>
        bif (!found1) then
          r0 out2
        else
        bif (decide (next2 = first8) && decide (next3 = first9)) then
          r0 out2
        else
        bif decide (((List.length out2) + 1) ≤ big) then
          bif decide ((((List.length list5) : Nat) : Int) < (((List.length (out2 ++ [(next2, next3)])) : Nat) : Int)) then
            r0 (out2 ++ [(next2, next3)])
          else
            G10 k list5 first8 first9 (out2 ++ [(next2, next3)]) r0
        else
          none)
      r0
  else
    none
theorem h18_g10 {α : Type} (F0 : T7 α) (F1 : T8 α) (F2 : T9 α) (F3 : T9 α) (G5 : T10 α) (G13 : T11 α) (G10 : T12 α) (n : Nat) : GenL (α := α) Try.prog Try.f18 S10 (h18_x F0 F1 F2 F3 G5 G13 G10 n) 10 h18_t10 h18_p10 n G10 (h18_b10 G13 G10) := by intro _ _ _ _ _ _; kernel_rfl
def h18_b {α : Type} (G5 : T10 α) (G10 : T12 α) (k : Nat) (list : List (Int × Int)) (r0 : (List (Int × Int)) → Option α) : Option α :=
  bif decide ((((List.length list) : Nat) : Int) = 0) then
    r0 []
  else
  bif (true && decide (0 < (((List.length list) : Nat) : Int))) then
    (list[0]?).bind fun e_ =>
    G5 k 0 list e_.1 e_.2
      (fun _ list2 first2 first3 =>
        G10 k list2 first2 first3 [(first2, first3)]
          r0)
      r0
  else
    none
theorem h18_g {α : Type} (F0 : T7 α) (F1 : T8 α) (F2 : T9 α) (F3 : T9 α) (G5 : T10 α) (G13 : T11 α) (G10 : T12 α) (n : Nat) : GenF (α := α) Try.prog Try.f18 S10 (h18_x F0 F1 F2 F3 G5 G13 G10 n) n (h18_b G5 G10) := by intro _ _; kernel_rfl
theorem h18_good {α : Type} : ∀ n, GoodFn (α := α) Try.prog 18 (byShape S10.sh (callS S10 spec_l09Hull n)) := good_of Try.func18 (by kernel_rfl) (by kernel_rfl) (by kernel_rfl) eqs_ok (fun n => h18_g spec_l09Before spec_l01Plus spec_l01Det spec_l09Far spec_l09Hull_l5 spec_l09Hull_l13 spec_l09Hull_l10 n) (by delta h18_b spec_l09Hull; rfl) (allC h32_good (allC h34_good (allC h33_good (allC h35_good allN)))) (allC (loop_fine (by kernel_rfl) (fun n => by delta h18_b5; funext _ _ _ _ _ _; exact (spec_l09Hull_l5.eq_2 ..).symm) (fun n => h18_g5 spec_l09Before spec_l01Plus spec_l01Det spec_l09Far spec_l09Hull_l5 spec_l09Hull_l13 spec_l09Hull_l10 n)) (allC (loop_fine (by kernel_rfl) (fun n => by delta h18_b13; funext _ _ _ _ _ _ _ _ _ _ _ _; exact (spec_l09Hull_l13.eq_2 ..).symm) (fun n => h18_g13 spec_l09Before spec_l01Plus spec_l01Det spec_l09Far spec_l09Hull_l5 spec_l09Hull_l13 spec_l09Hull_l10 n)) (allC (loop_fine (by kernel_rfl) (fun n => by delta h18_b10; funext _ _ _ _ _; exact (spec_l09Hull_l10.eq_2 ..).symm) (fun n => h18_g10 spec_l09Before spec_l01Plus spec_l01Det spec_l09Far spec_l09Hull_l5 spec_l09Hull_l13 spec_l09Hull_l10 n)) allN)))

/-! loop.example/g01297/spec.l09Side -/
abbrev h37_x {α : Type} (F0 : T8 α) (F1 : T9 α) : Nat → Ctx α := ctxS false M eqs jt0 [⟨34, S8, F0⟩, ⟨33, S9, F1⟩] []
def h37_b {α : Type} (F0 : T8 α) (F1 : T9 α) (k : Nat) (a : Int) (a1 : Int) (b_ : Int) (b_1 : Int) (c : Int) (c1 : Int) (r0 : Int → Option α) : Option α :=
  F0 k b_ b_1 a a1 (-1) fun v v1 =>
  F0 k c c1 b_ b_1 (-1) fun v2 v3 =>
  F1 k v v1 v2 v3 fun v4 =>
  r0 v4
theorem h37_g {α : Type} (F0 : T8 α) (F1 : T9 α) (n : Nat) : GenF (α := α) Try.prog Try.f37 S11 (h37_x F0 F1 n) n (h37_b F0 F1) := by intro _ _ _ _ _ _ _; kernel_rfl
theorem h37_good {α : Type} : ∀ n, GoodFn (α := α) Try.prog 37 (byShape S11.sh (callS S11 spec_l09Side n)) := good_of Try.func37 (by kernel_rfl) (by kernel_rfl) (by kernel_rfl) eqs_ok (fun n => h37_g spec_l01Plus spec_l01Det n) (by delta h37_b spec_l09Side; rfl) (allC h34_good (allC h33_good allN)) allN

/-! loop.example/g01297/spec.l09Half -/
abbrev h38_x {α : Type}  : Nat → Ctx α := ctxS false M eqs jt0 [] []
def h38_b {α : Type}  (_ : Nat) (a : Int) (a1 : Int) (r0 : Int → Option α) : Option α :=
  bif decide (0 < a1) then
    r0 0
  else
  bif decide (a1 = 0) then
    bif decide (0 < a) then
      r0 0
    else
      r0 1
  else
    r0 1
theorem h38_g {α : Type}  (n : Nat) : GenF (α := α) Try.prog Try.f38 S12 (h38_x n) n (h38_b) := by intro _ _ _; kernel_rfl
theorem h38_good {α : Type} : ∀ n, GoodFn (α := α) Try.prog 38 (byShape S12.sh (callS S12 spec_l09Half n)) := good_of Try.func38 (by kernel_rfl) (by kernel_rfl) (by kernel_rfl) eqs_ok (fun n => h38_g n) (by delta h38_b spec_l09Half; rfl) allN allN

/-! loop.example/g01297/spec.l09Is -/
def h19_t6 : Tpl := ⟨(.sl 0 :: (.any :: (.any :: (.int .i64 :: (.int .i64 :: (.int .i64 :: (anyN 75 []))))))), [(0, .rows 0 33 .pt)], [], false⟩
def h19_p6 : PcS := loopS [.int, .int, .int, .rows .pt] [0]
abbrev h19_x {α : Type} (F0 : T2 α) (F1 : T4 α) (F2 : T13 α) (F3 : T8 α) (F4 : T14 α) (G6 : T15 α) : Nat → Ctx α := ctxS false M eqs jt0 [⟨36, S3, F0⟩, ⟨31, S5, F1⟩, ⟨37, S11, F2⟩, ⟨34, S8, F3⟩, ⟨38, S12, F4⟩] [lpT 6 h19_t6 h19_p6 R3 G6]
def h19_b6 {α : Type} (F0 : T2 α) (F1 : T4 α) (F2 : T13 α) (F3 : T8 α) (F4 : T14 α) (G6 : T15 α) (k : Nat) (n_ : Int) (turns : Int) (i : Int) (list1 : List (Int × Int)) (b0 : Int → Int → Int → (List (Int × Int)) → Option α) (r0 : Bool → Option α) : Option α :=
  bif decide (i < n_) then
    bif (decide (0 ≤ i) && decide (i < (((List.length list1) : Nat) : Int))) then
      (list1[i.toNat]?).bind fun e_ =>
      bif decide (n_ = 0) then
        none
      else
      bif (decide (0 ≤ (Int.tmod (w64 (i + 1)) n_)) && decide ((Int.tmod (w64 (i + 1)) n_) < (((List.length list1) : Nat) : Int))) then
        (list1[(Int.tmod (w64 (i + 1)) n_).toNat]?).bind fun e_1 =>
        bif decide (n_ = 0) then
          none
        else
        bif (decide (0 ≤ (Int.tmod (w64 (i + 2)) n_)) && decide ((Int.tmod (w64 (i + 2)) n_) < (((List.length list1) : Nat) : Int))) then
          (list1[(Int.tmod (w64 (i + 2)) n_).toNat]?).bind fun e_2 =>
          F0 k e_.1 (-1000) 1000 fun v =>
          bif (!v) then
            r0 false
          else
            F0 k e_.2 (-1000) 1000 fun v1 =>
            bif (!v1) then
              r0 false
            else
              F1 k e_1.1 e_1.2 fun v2 =>
              bif (!v2) then
                r0 false
              else
                F1 k e_2.1 e_2.2 fun v3 =>
                bif (!v3) then
                  r0 false
                else
                  F2 k e_.1 e_.2 e_1.1 e_1.2 e_2.1 e_2.2 fun v4 =>
                  bif decide (v4 ≤ 0) then
                    r0 false
                  else
                    F3 k e_1.1 e_1.2 e_.1 e_.2 (-1) fun v5 v6 =>
                    F4 k v5 v6 fun v7 =>
                    bif decide (v7 = 1) then
                      F3 k e_2.1 e_2.2 e_1.1 e_1.2 (-1) fun v8 v9 =>
                      F4 k v8 v9 fun v10 =>
                      bif decide (v10 = 0) then
                        G6 k n_ (w64 (turns + 1)) (w64 (i + 1)) list1 b0 r0
                      else
                        G6 k n_ turns (w64 (i + 1)) list1 b0 r0
                    else
                      G6 k n_ turns (w64 (i + 1)) list1 b0 r0
        else
          none
      else
        none
    else
      none
  else
    b0 n_ turns i list1
theorem h19_g6 {α : Type} (F0 : T2 α) (F1 : T4 α) (F2 : T13 α) (F3 : T8 α) (F4 : T14 α) (G6 : T15 α) (n : Nat) : GenL (α := α) Try.prog Try.f19 S13 (h19_x F0 F1 F2 F3 F4 G6 n) 6 h19_t6 h19_p6 n G6 (h19_b6 F0 F1 F2 F3 F4 G6) := by intro _ _ _ _ _ _; kernel_rfl
def h19_b {α : Type} (G6 : T15 α) (k : Nat) (list : List (Int × Int)) (r0 : Bool → Option α) : Option α :=
  bif decide ((((List.length list) : Nat) : Int) < 3) then
    r0 false
  else
  bif decide (12 < (((List.length list) : Nat) : Int)) then
    r0 false
  else
    G6 k (((List.length list) : Nat) : Int) 0 0 list
      (fun _ turns1 _ _ =>
        r0 (decide (turns1 = 1)))
      r0
theorem h19_g {α : Type} (F0 : T2 α) (F1 : T4 α) (F2 : T13 α) (F3 : T8 α) (F4 : T14 α) (G6 : T15 α) (n : Nat) : GenF (α := α) Try.prog Try.f19 S13 (h19_x F0 F1 F2 F3 F4 G6 n) n (h19_b G6) := by intro _ _; kernel_rfl
theorem h19_good {α : Type} : ∀ n, GoodFn (α := α) Try.prog 19 (byShape S13.sh (callS S13 spec_l09Is n)) := good_of Try.func19 (by kernel_rfl) (by kernel_rfl) (by kernel_rfl) eqs_ok (fun n => h19_g spec_l01In spec_l01Is spec_l09Side spec_l01Plus spec_l09Half spec_l09Is_l6 n) (by delta h19_b spec_l09Is; rfl) (allC h36_good (allC h31_good (allC h37_good (allC h34_good (allC h38_good allN))))) (allC (loop_fine (by kernel_rfl) (fun n => by delta h19_b6; funext _ _ _ _ _ _; exact (spec_l09Is_l6.eq_2 ..).symm) (fun n => h19_g6 spec_l01In spec_l01Is spec_l09Side spec_l01Plus spec_l09Half spec_l09Is_l6 n)) allN)

/-! loop.example/g01297/spec.l09Told -/
abbrev h12_x {α : Type} (F0 : T16 α) (F1 : T17 α) : Nat → Ctx α := ctxS false M eqs jt0 [⟨18, S10, F0⟩, ⟨19, S13, F1⟩] []
def h12_b {α : Type} (F0 : T16 α) (F1 : T17 α) (k : Nat) (list : List (Int × Int)) (r0 : Int → Option α) (r1 : (List (Int × Int)) → Int → Option α) : Option α :=
  F0 k list fun v =>
  bif decide ((((List.length v) : Nat) : Int) < 3) then
    r0 5
  else
    F1 k v fun v1 =>
    bif (!v1) then
      r0 3
    else
      r1 v 0
theorem h12_g {α : Type} (F0 : T16 α) (F1 : T17 α) (n : Nat) : GenF (α := α) Try.prog Try.f12 S14 (h12_x F0 F1 n) n (h12_b F0 F1) := by intro _ _; kernel_rfl
theorem h12_good {α : Type} : ∀ n, GoodFn (α := α) Try.prog 12 (byShape S14.sh (callS S14 spec_l09Told n)) := good_of Try.func12 (by kernel_rfl) (by kernel_rfl) (by kernel_rfl) eqs_ok (fun n => h12_g spec_l09Hull spec_l09Is n) (by delta h12_b spec_l09Told; rfl) (allC h18_good (allC h19_good allN)) allN

/-! loop.example/g01297/spec.HullOf -/
abbrev h5_x {α : Type} (F0 : T6 α) (F1 : T18 α) : Nat → Ctx α := ctxS false M eqs jt0 [⟨11, S6, F0⟩, ⟨12, S14, F1⟩] []
def h5_b {α : Type} (F0 : T6 α) (F1 : T18 α) (k : Nat) (list : List (Int × Int)) (r0 : Int → Option α) (r1 : (List (Int × Int)) → Int → Option α) : Option α :=
  F0 k list fun v =>
  bif (!decide (v = 0)) then
    r0 v
  else
    F1 k list
      (fun v1 =>
        r0 v1)
      (fun v2 v3 =>
        r1 v2 v3)
theorem h5_g {α : Type} (F0 : T6 α) (F1 : T18 α) (n : Nat) : GenF (α := α) Try.prog Try.f5 S14 (h5_x F0 F1 n) n (h5_b F0 F1) := by intro _ _; kernel_rfl
theorem h5_good {α : Type} : ∀ n, GoodFn (α := α) Try.prog 5 (byShape S14.sh (callS S14 spec_HullOf n)) := good_of Try.func5 (by kernel_rfl) (by kernel_rfl) (by kernel_rfl) eqs_ok (fun n => h5_g spec_l01Points spec_l09Told n) (by delta h5_b spec_HullOf; rfl) (allC h11_good (allC h12_good allN)) allN

/-! loop.example/g01297/impl.in -/
abbrev h47_x {α : Type}  : Nat → Ctx α := ctxS false M eqs jt0 [] []
def h47_b {α : Type}  (_ : Nat) (n_ : Int) (low : Int) (high : Int) (r0 : Bool → Option α) : Option α :=
  bif decide (low ≤ n_) then
    r0 (decide (n_ ≤ high))
  else
    r0 false
theorem h47_g {α : Type}  (n : Nat) : GenF (α := α) Try.prog Try.f47 S3 (h47_x n) n (h47_b) := by intro _ _ _ _; kernel_rfl
theorem h47_good {α : Type} : ∀ n, GoodFn (α := α) Try.prog 47 (byShape S3.sh (callS S3 impl_in n)) := good_of Try.func47 (by kernel_rfl) (by kernel_rfl) (by kernel_rfl) eqs_ok (fun n => h47_g n) (by delta h47_b impl_in; rfl) allN allN

/-! loop.example/g01297/impl.isCoord -/
abbrev h40_x {α : Type} (F0 : T2 α) : Nat → Ctx α := ctxS false M eqs jt0 [⟨47, S3, F0⟩] []
def h40_b {α : Type} (F0 : T2 α) (k : Nat) (n_ : Int) (r0 : Bool → Option α) : Option α :=
  F0 k n_ (-1000000) 1000000 fun v =>
  r0 v
theorem h40_g {α : Type} (F0 : T2 α) (n : Nat) : GenF (α := α) Try.prog Try.f40 S4 (h40_x F0 n) n (h40_b F0) := by intro _ _; kernel_rfl
theorem h40_good {α : Type} : ∀ n, GoodFn (α := α) Try.prog 40 (byShape S4.sh (callS S4 impl_isCoord n)) := good_of Try.func40 (by kernel_rfl) (by kernel_rfl) (by kernel_rfl) eqs_ok (fun n => h40_g impl_in n) (by delta h40_b impl_isCoord; rfl) (allC h47_good allN) allN

/-! loop.example/g01297/impl.IsPoint -/
abbrev h22_x {α : Type} (F0 : T3 α) : Nat → Ctx α := ctxS false M eqs jt0 [⟨40, S4, F0⟩] []
def h22_b {α : Type} (F0 : T3 α) (k : Nat) (a : Int) (a1 : Int) (r0 : Bool → Option α) : Option α :=
  F0 k a fun v =>
  bif v then
    F0 k a1 fun v1 =>
    r0 v1
  else
    r0 false
theorem h22_g {α : Type} (F0 : T3 α) (n : Nat) : GenF (α := α) Try.prog Try.f22 S5 (h22_x F0 n) n (h22_b F0) := by intro _ _ _; kernel_rfl
theorem h22_good {α : Type} : ∀ n, GoodFn (α := α) Try.prog 22 (byShape S5.sh (callS S5 impl_IsPoint n)) := good_of Try.func22 (by kernel_rfl) (by kernel_rfl) (by kernel_rfl) eqs_ok (fun n => h22_g impl_isCoord n) (by delta h22_b impl_IsPoint; rfl) (allC h40_good allN) allN

/-! loop.example/g01297/impl.points$1 -/
abbrev h21_x {α : Type} (F0 : T4 α) : Nat → Ctx α := ctxS false M eqs jt0 [⟨22, S5, F0⟩] []
def h21_b {α : Type} (F0 : T4 α) (k : Nat) (a : Int) (a1 : Int) (r0 : Bool → Option α) : Option α :=
  F0 k a a1 fun v =>
  r0 (!v)
theorem h21_g {α : Type} (F0 : T4 α) (n : Nat) : GenF (α := α) Try.prog Try.f21 S5 (h21_x F0 n) n (h21_b F0) := by intro _ _ _; kernel_rfl
theorem h21_good {α : Type} : ∀ n, GoodFn (α := α) Try.prog 21 (byShape S5.sh (callS S5 impl_points_1 n)) := good_of Try.func21 (by kernel_rfl) (by kernel_rfl) (by kernel_rfl) eqs_ok (fun n => h21_g impl_IsPoint n) (by delta h21_b impl_points_1; rfl) (allC h22_good allN) allN

/-! slices.IndexFunc[[]loop.example/g01297/impl.Point,loop.example/g01297/impl.Point] -/
def h39_t2 : Tpl := ⟨(.sl 0 :: (.fn 21 [] :: (anyN 5 (.int .i64 :: (.int .i64 :: (anyN 10 [])))))), [(0, .rows 0 33 .pt)], [], false⟩
def h39_p2 : PcS := loopS [.int, .int, .rows .pt] [0]
abbrev h39_x {α : Type} (F0 : T4 α) (G2 : T19 α) : Nat → Ctx α := ctxS false M eqs jt0 [⟨21, S5, F0⟩] [lpT 2 h39_t2 h39_p2 R0 G2]
def h39_b2 {α : Type} (F0 : T4 α) (G2 : T19 α) (k : Nat) (x : Int) (x1 : Int) (s1 : List (Int × Int)) (b0 : Int → Int → (List (Int × Int)) → Option α) (r0 : Int → Option α) : Option α :=
  bif decide (x1 < x) then
    bif (decide (0 ≤ x1) && decide (x1 < (((List.length s1) : Nat) : Int))) then
      (s1[x1.toNat]?).bind fun e_ =>
      F0 k e_.1 e_.2 fun v =>
      bif v then
        r0 x1
      else
        G2 k x (w64 (x1 + 1)) s1 b0 r0
    else
      none
  else
    b0 x x1 s1
theorem h39_g2 {α : Type} (F0 : T4 α) (G2 : T19 α) (n : Nat) : GenL (α := α) Try.prog Try.f39 S15 (h39_x F0 G2 n) 2 h39_t2 h39_p2 n G2 (h39_b2 F0 G2) := by intro _ _ _ _ _; kernel_rfl
def h39_b {α : Type} (G2 : T19 α) (k : Nat) (s : List (Int × Int)) (r0 : Int → Option α) : Option α :=
  G2 k (((List.length s) : Nat) : Int) 0 s
    (fun _ _ _ =>
      r0 (-1))
    r0
theorem h39_g {α : Type} (F0 : T4 α) (G2 : T19 α) (n : Nat) : GenF (α := α) Try.prog Try.f39 S15 (h39_x F0 G2 n) n (h39_b G2) := by intro _ _; kernel_rfl
theorem h39_good {α : Type} : ∀ n, GoodFn (α := α) Try.prog 39 (byShape S15.sh (callS S15 slices_IndexFunc_impl_Point_impl_Point_1F_impl_points_1 n)) := good_of Try.func39 (by kernel_rfl) (by kernel_rfl) (by kernel_rfl) eqs_ok (fun n => h39_g impl_points_1 slices_IndexFunc_impl_Point_impl_Point_1F_impl_points_1_l2 n) (by delta h39_b slices_IndexFunc_impl_Point_impl_Point_1F_impl_points_1; rfl) (allC h21_good allN) (allC (loop_fine (by kernel_rfl) (fun n => by delta h39_b2; funext _ _ _ _ _; exact (slices_IndexFunc_impl_Point_impl_Point_1F_impl_points_1_l2.eq_2 ..).symm) (fun n => h39_g2 impl_points_1 slices_IndexFunc_impl_Point_impl_Point_1F_impl_points_1_l2 n)) allN)

/-! slices.ContainsFunc[[]loop.example/g01297/impl.Point,loop.example/g01297/impl.Point] -/
abbrev h20_x {α : Type} (F0 : T6 α) : Nat → Ctx α := ctxS false M eqs jt0 [⟨39, S15, F0⟩] []
def h20_b {α : Type} (F0 : T6 α) (k : Nat) (s : List (Int × Int)) (r0 : Bool → Option α) : Option α :=
  F0 k s fun v =>
  r0 (decide (0 ≤ v))
theorem h20_g {α : Type} (F0 : T6 α) (n : Nat) : GenF (α := α) Try.prog Try.f20 S16 (h20_x F0 n) n (h20_b F0) := by intro _ _; kernel_rfl
theorem h20_good {α : Type} : ∀ n, GoodFn (α := α) Try.prog 20 (byShape S16.sh (callS S16 slices_ContainsFunc_impl_Point_impl_Point_1F_impl_points_1 n)) := good_of Try.func20 (by kernel_rfl) (by kernel_rfl) (by kernel_rfl) eqs_ok (fun n => h20_g slices_IndexFunc_impl_Point_impl_Point_1F_impl_points_1 n) (by delta h20_b slices_ContainsFunc_impl_Point_impl_Point_1F_impl_points_1; rfl) (allC h39_good allN) allN

/-! loop.example/g01297/impl.points -/
abbrev h14_x {α : Type} (F0 : T17 α) : Nat → Ctx α := ctxS false M eqs jt0 [⟨20, S16, F0⟩] []
def h14_b {α : Type} (F0 : T17 α) (k : Nat) (list : List (Int × Int)) (r0 : Bool → Option α) : Option α :=
  F0 k list fun v =>
  r0 (!v)
theorem h14_g {α : Type} (F0 : T17 α) (n : Nat) : GenF (α := α) Try.prog Try.f14 S13 (h14_x F0 n) n (h14_b F0) := by intro _ _; kernel_rfl
theorem h14_good {α : Type} : ∀ n, GoodFn (α := α) Try.prog 14 (byShape S13.sh (callS S13 impl_points n)) := good_of Try.func14 (by kernel_rfl) (by kernel_rfl) (by kernel_rfl) eqs_ok (fun n => h14_g slices_ContainsFunc_impl_Point_impl_Point_1F_impl_points_1 n) (by delta h14_b impl_points; rfl) (allC h20_good allN) allN

/-! slices.Clone[[]loop.example/g01297/impl.Point,loop.example/g01297/impl.Point] -/
abbrev h23_x {α : Type}  : Nat → Ctx α := ctxS true M eqs jt0 [] []
noncomputable def h23_b {α : Type}  (_ : Nat) (s : List (Int × Int)) (r0 : Option α) (r1 : (List (Int × Int)) → Option α) : Option α :=
  bif Nat.beq (List.length s) 0 then
    both
      (
        r0)
      (
        bif decide ((0 + (List.length s)) ≤ big) then
          r1 ([] ++ s)
        else
          none)
  else
  bif decide ((0 + (List.length s)) ≤ big) then
    r1 ([] ++ s)
  else
    none
theorem h23_g {α : Type}  (n : Nat) : GenF (α := α) Try.prog Try.f23 S17 (h23_x n) n (h23_b) := by intro _ _; kernel_rfl
theorem h23_good {α : Type} : ∀ n, GoodFn (α := α) Try.prog 23 (byShape S17.sh (callS S17 slices_Clone_impl_Point_impl_Point n)) := good_of Try.func23 (by kernel_rfl) (by kernel_rfl) (by kernel_rfl) eqs_ok (fun n => h23_g n) (by delta h23_b slices_Clone_impl_Point_impl_Point; rfl) allN allN

/-! cmp.isNaN[int64] -/
abbrev h62_x {α : Type}  : Nat → Ctx α := ctxS false M eqs jt0 [] []
def h62_b {α : Type}  (_ : Nat) (x : Int) (r0 : Bool → Option α) : Option α :=
  r0 (!decide (x = x))
theorem h62_g {α : Type}  (n : Nat) : GenF (α := α) Try.prog Try.f62 S4 (h62_x n) n (h62_b) := by intro _ _; kernel_rfl
theorem h62_good {α : Type} : ∀ n, GoodFn (α := α) Try.prog 62 (byShape S4.sh (callS S4 cmp_isNaN_int64 n)) := good_of Try.func62 (by kernel_rfl) (by kernel_rfl) (by kernel_rfl) eqs_ok (fun n => h62_g n) (by delta h62_b cmp_isNaN_int64; rfl) allN allN

/-! cmp.Compare[int64] -/
abbrev h44_x {α : Type} (F0 : T3 α) : Nat → Ctx α := ctxS false M eqs jt0 [⟨62, S4, F0⟩] []
def h44_b {α : Type} (F0 : T3 α) (k : Nat) (x : Int) (y : Int) (r0 : Int → Option α) : Option α :=
  F0 k x fun v =>
  F0 k y fun v1 =>
  bif v then
    bif v1 then
      r0 0
    else
      r0 (-1)
  else
  bif v1 then
    r0 1
  else
  bif decide (x < y) then
    r0 (-1)
  else
  bif decide (y < x) then
    r0 1
  else
    r0 0
theorem h44_g {α : Type} (F0 : T3 α) (n : Nat) : GenF (α := α) Try.prog Try.f44 S18 (h44_x F0 n) n (h44_b F0) := by intro _ _ _; kernel_rfl
theorem h44_good {α : Type} : ∀ n, GoodFn (α := α) Try.prog 44 (byShape S18.sh (callS S18 cmp_Compare_int64 n)) := good_of Try.func44 (by kernel_rfl) (by kernel_rfl) (by kernel_rfl) eqs_ok (fun n => h44_g cmp_isNaN_int64 n) (by delta h44_b cmp_Compare_int64; rfl) (allC h62_good allN) allN

/-! cmp.Or[int] -/
def h43_t3 : Tpl := ⟨(.any :: (.any :: (.any :: (.int .i64 :: (.any :: (.any :: (.sl 0 :: (.int .i64 :: (.int .i64 :: (anyN 9 [])))))))))), [(0, .rows 0 3 (.int .i64))], [], false⟩
def h43_p3 : PcS := loopS [.int, .int, .int, .rows (.int .i64)] [0]
abbrev h43_x {α : Type} (G3 : T20 α) : Nat → Ctx α := ctxS false M eqs jt0 [] [lpT 3 h43_t3 h43_p3 R0 G3]
def h43_b3 {α : Type} (G3 : T20 α) (k : Nat) (zero : Int) (x : Int) (x1 : Int) (x2 : List Int) (b0 : Int → Int → Int → List Int → Option α) (r0 : Int → Option α) : Option α :=
  bif decide (x1 < x) then
    bif (decide (0 ≤ x1) && decide (x1 < (((List.length x2) : Nat) : Int))) then
      (x2[x1.toNat]?).bind fun e_ =>
      bif (!decide (e_ = zero)) then
        r0 e_
      else
        G3 k zero x (w64 (x1 + 1)) x2 b0 r0
    else
      none
  else
    b0 zero x x1 x2
theorem h43_g3 {α : Type} (G3 : T20 α) (n : Nat) : GenL (α := α) Try.prog Try.f43 S19 (h43_x G3 n) 3 h43_t3 h43_p3 n G3 (h43_b3 G3) := by intro _ _ _ _ _ _; kernel_rfl
def h43_b {α : Type} (G3 : T20 α) (k : Nat) (vals : List Int) (r0 : Int → Option α) : Option α :=
  G3 k 0 (((List.length vals) : Nat) : Int) 0 vals
    (fun zero1 _ _ _ =>
      r0 zero1)
    r0
theorem h43_g {α : Type} (G3 : T20 α) (n : Nat) : GenF (α := α) Try.prog Try.f43 S19 (h43_x G3 n) n (h43_b G3) := by intro _ _; kernel_rfl
theorem h43_good {α : Type} : ∀ n, GoodFn (α := α) Try.prog 43 (byShape S19.sh (callS S19 cmp_Or_int n)) := good_of Try.func43 (by kernel_rfl) (by kernel_rfl) (by kernel_rfl) eqs_ok (fun n => h43_g cmp_Or_int_l3 n) (by delta h43_b cmp_Or_int; rfl) allN (allC (loop_fine (by kernel_rfl) (fun n => by delta h43_b3; funext _ _ _ _ _ _; exact (cmp_Or_int_l3.eq_2 ..).symm) (fun n => h43_g3 cmp_Or_int_l3 n)) allN)

/-! loop.example/g01297/impl.pointOrder -/
abbrev h25_x {α : Type} (F0 : T14 α) (F1 : T21 α) : Nat → Ctx α := ctxS false M eqs jt0 [⟨44, S18, F0⟩, ⟨43, S19, F1⟩] []
def h25_b {α : Type} (F0 : T14 α) (F1 : T21 α) (k : Nat) (a : Int) (a1 : Int) (b_ : Int) (b_1 : Int) (r0 : Int → Option α) : Option α :=
  F0 k a b_ fun v =>
  F0 k a1 b_1 fun v1 =>
  F1 k [v, v1] fun v2 =>
  r0 v2
theorem h25_g {α : Type} (F0 : T14 α) (F1 : T21 α) (n : Nat) : GenF (α := α) Try.prog Try.f25 S9 (h25_x F0 F1 n) n (h25_b F0 F1) := by intro _ _ _ _ _; kernel_rfl
theorem h25_good {α : Type} : ∀ n, GoodFn (α := α) Try.prog 25 (byShape S9.sh (callS S9 impl_pointOrder n)) := good_of Try.func25 (by kernel_rfl) (by kernel_rfl) (by kernel_rfl) eqs_ok (fun n => h25_g cmp_Compare_int64 cmp_Or_int n) (by delta h25_b impl_pointOrder; rfl) (allC h44_good (allC h43_good allN)) allN

/-! slices.SortFunc[[]loop.example/g01297/impl.Point,loop.example/g01297/impl.Point] -/
def h24_lay_ren : Go.Shelf.Ren := ⟨fun | 6 => 24 | 15 => 42 | 14 => 41 | 28 => 60 | 29 => 61 | 20 => 52 | 21 => 53 | 22 => 54 | 23 => 55 | 24 => 56 | 25 => 57 | 26 => 58 | 27 => 59 | 46 => 66 | 47 => 67 | 48 => 68 | 49 => 69 | 50 => 70 | 57 => 72 | n => n, fun | 22 => 24 | 24 => 33 | 25 => 43 | 3 => 3 | 39 => 55 | 0 => 0 | 53 => 71 | 55 => 73 | 4 => 4 | 46 => 64 | 45 => 63 | 50 => 68 | 5 => 5 | 9 => 9 | 66 => 77 | 70 => 81 | 76 => 84 | 77 => 85 | n => n, fun | n => n⟩

theorem h24_lay : Go.Proofs.SlLaysF0.n6 Try.prog h24_lay_ren := {
  mixed := by kernel_rfl,
  f6 := ⟨Try.f24.name, by decide, Try.func24.trans (congrArg some (by kernel_rfl))⟩,
  f14 := ⟨Try.f41.name, by decide, Try.func41.trans (congrArg some (by kernel_rfl))⟩,
  f15 := Try.func42.trans (congrArg some (by kernel_rfl)),
  f20 := ⟨Try.f52.name, by decide, Try.func52.trans (congrArg some (by kernel_rfl))⟩,
  f21 := ⟨Try.f53.name, by decide, Try.func53.trans (congrArg some (by kernel_rfl))⟩,
  f22 := ⟨Try.f54.name, by decide, Try.func54.trans (congrArg some (by kernel_rfl))⟩,
  f23 := ⟨Try.f55.name, by decide, Try.func55.trans (congrArg some (by kernel_rfl))⟩,
  f24 := ⟨Try.f56.name, by decide, Try.func56.trans (congrArg some (by kernel_rfl))⟩,
  f25 := ⟨Try.f57.name, by decide, Try.func57.trans (congrArg some (by kernel_rfl))⟩,
  f26 := ⟨Try.f58.name, by decide, Try.func58.trans (congrArg some (by kernel_rfl))⟩,
  f27 := ⟨Try.f59.name, by decide, Try.func59.trans (congrArg some (by kernel_rfl))⟩,
  f28 := Try.func60.trans (congrArg some (by kernel_rfl)),
  f29 := Try.func61.trans (congrArg some (by kernel_rfl)),
  f46 := ⟨Try.f66.name, by decide, Try.func66.trans (congrArg some (by kernel_rfl))⟩,
  f47 := Try.func67.trans (congrArg some (by kernel_rfl)),
  f48 := Try.func68.trans (congrArg some (by kernel_rfl)),
  f49 := ⟨Try.f69.name, by decide, Try.func69.trans (congrArg some (by kernel_rfl))⟩,
  f50 := ⟨Try.f70.name, by decide, Try.func70.trans (congrArg some (by kernel_rfl))⟩,
  f57 := ⟨Try.f72.name, by decide, Try.func72.trans (congrArg some (by kernel_rfl))⟩,
  t0 := Try.underlying0,
  a0 := Try.isAgg0,
  z0 := Try.sizeOf0,
  v0 := Try.zeroValue0,
  t3 := Try.underlying3,
  a3 := Try.isAgg3,
  z3 := Try.sizeOf3,
  v3 := Try.zeroValue3,
  t4 := Try.underlying4,
  a4 := Try.isAgg4,
  z4 := Try.sizeOf4,
  v4 := Try.zeroValue4,
  t5 := Try.underlying5,
  a5 := Try.isAgg5,
  z5 := Try.sizeOf5,
  v5 := Try.zeroValue5,
  t9 := Try.underlying9,
  a9 := Try.isAgg9,
  z9 := Try.sizeOf9,
  v9 := Try.zeroValue9,
  t22 := Try.underlying24,
  a22 := Try.isAgg24,
  z22 := Try.sizeOf24,
  v22 := Try.zeroValue24,
  t25 := Try.underlying43,
  a25 := Try.isAgg43,
  z25 := Try.sizeOf43,
  v25 := Try.zeroValue43,
  t39 := Try.underlying55,
  a39 := Try.isAgg55,
  z39 := Try.sizeOf55,
  v39 := Try.zeroValue55,
  t45 := Try.underlying63,
  a45 := Try.isAgg63,
  z45 := Try.sizeOf63,
  v45 := Try.zeroValue63,
  t46 := Try.underlying64,
  a46 := Try.isAgg64,
  z46 := Try.sizeOf64,
  v46 := Try.zeroValue64,
  t50 := Try.underlying68,
  a50 := Try.isAgg68,
  z50 := Try.sizeOf68,
  v50 := Try.zeroValue68,
  t53 := Try.underlying71,
  a53 := Try.isAgg71,
  z53 := Try.sizeOf71,
  v53 := Try.zeroValue71,
  t55 := Try.underlying73,
  a55 := Try.isAgg73,
  z55 := Try.sizeOf73,
  v55 := Try.zeroValue73,
  t66 := Try.underlying77,
  a66 := Try.isAgg77,
  z66 := Try.sizeOf77,
  v66 := Try.zeroValue77,
  t70 := Try.underlying81,
  a70 := Try.isAgg81,
  z70 := Try.sizeOf81,
  v70 := Try.zeroValue81,
  t76 := Try.underlying84,
  a76 := Try.isAgg84,
  z76 := Try.sizeOf84,
  v76 := Try.zeroValue84,
  t77 := Try.underlying85,
  a77 := Try.isAgg85,
  z77 := Try.sizeOf85,
  v77 := Try.zeroValue85 }

theorem h24_good {α : Type} : ∀ n, GoodFn (α := α) Try.prog 24 (byShape S20.sh (callS S20 slices_SortFunc_impl_Point_impl_Point_0N_1F_impl_pointOrder n)) := sort_good_nil h24_lay (fun _ _ => rfl)

/-! slices.Compact[[]loop.example/g01297/impl.Point,loop.example/g01297/impl.Point] -/
abbrev h26_x {α : Type}  : Nat → Ctx α := ctxS false M eqs jt0 [] []
def h26_b {α : Type}  (_ : Nat) (r0 : Option α) : Option α :=
  r0
theorem h26_g {α : Type}  (n : Nat) : GenF (α := α) Try.prog Try.f26 S21 (h26_x n) n (h26_b) := by intro _; kernel_rfl
theorem h26_good {α : Type} : ∀ n, GoodFn (α := α) Try.prog 26 (byShape S21.sh (callS S21 slices_Compact_impl_Point_impl_Point_0N n)) := good_of Try.func26 (by kernel_rfl) (by kernel_rfl) (by kernel_rfl) eqs_ok (fun n => h26_g n) (by delta h26_b slices_Compact_impl_Point_impl_Point_0N; rfl) allN allN

/-! loop.example/g01297/impl.chain -/
abbrev h27_x {α : Type}  : Nat → Ctx α := ctxS false M eqs jt0 [] []
def h27_b {α : Type}  (_ : Nat) (r0 : (List (Int × Int)) → Option α) : Option α :=
  r0 []
theorem h27_g {α : Type}  (n : Nat) : GenF (α := α) Try.prog Try.f27 S22 (h27_x n) n (h27_b) := by intro _; kernel_rfl
theorem h27_good {α : Type} : ∀ n, GoodFn (α := α) Try.prog 27 (byShape S22.sh (callS S22 impl_chain_0N n)) := good_of Try.func27 (by kernel_rfl) (by kernel_rfl) (by kernel_rfl) eqs_ok (fun n => h27_g n) (by delta h27_b impl_chain_0N; rfl) allN allN

/-! slices.Reverse[[]loop.example/g01297/impl.Point,loop.example/g01297/impl.Point] -/
abbrev h28_x {α : Type}  : Nat → Ctx α := ctxS false M eqs jt0 [] []
def h28_b {α : Type}  (_ : Nat) (r0 : Option α) : Option α :=
  r0
theorem h28_g {α : Type}  (n : Nat) : GenF (α := α) Try.prog Try.f28 S23 (h28_x n) n (h28_b) := by intro _; kernel_rfl
theorem h28_good {α : Type} : ∀ n, GoodFn (α := α) Try.prog 28 (byShape S23.sh (callS S23 slices_Reverse_impl_Point_impl_Point_0N n)) := good_of Try.func28 (by kernel_rfl) (by kernel_rfl) (by kernel_rfl) eqs_ok (fun n => h28_g n) (by delta h28_b slices_Reverse_impl_Point_impl_Point_0N; rfl) allN allN

/-! slices.Grow[[]loop.example/g01297/impl.Point,loop.example/g01297/impl.Point] -/
abbrev h46_x {α : Type}  : Nat → Ctx α := ctxS false M eqs jt0 [] []
def h46_b {α : Type}  (_ : Nat) (n_ : Int) (r0 : (List (Int × Int)) → Option α) (r1 : Option α) : Option α :=
  bif decide (n_ < 0) then
    none
  else
  bif decide (0 < (w64 (n_ - 0))) then
    bif (decide (1 ≤ (w64 (n_ - 0))) && decide ((w64 (n_ - 0)) ≤ (big : Int))) then
      bif (true && decide (0 ≤ (((List.length (List.replicate ((w64 (n_ - 0)).toNat) (0, 0))) : Nat) : Int))) then
        r0 (List.take 0 (List.replicate ((w64 (n_ - 0)).toNat) (0, 0)))
      else
        none
    else
      none
  else
    r1
theorem h46_g {α : Type}  (n : Nat) : GenF (α := α) Try.prog Try.f46 S24 (h46_x n) n (h46_b) := by intro _ _; kernel_rfl
theorem h46_good {α : Type} : ∀ n, GoodFn (α := α) Try.prog 46 (byShape S24.sh (callS S24 slices_Grow_impl_Point_impl_Point_0N n)) := good_of Try.func46 (by kernel_rfl) (by kernel_rfl) (by kernel_rfl) eqs_ok (fun n => h46_g n) (by delta h46_b slices_Grow_impl_Point_impl_Point_0N; rfl) allN allN

/-! slices.Concat[[]loop.example/g01297/impl.Point,loop.example/g01297/impl.Point] -/
abbrev h29_x {α : Type} (F0 : T22 α) : Nat → Ctx α := ctxS false M eqs jt0 [⟨46, S24, F0⟩] []
def h29_b {α : Type} (F0 : T22 α) (k : Nat) (slices : List (Int × Int)) (slices1 : List (Int × Int)) (r0 : (List (Int × Int)) → Option α) : Option α :=
  bif decide ((w64 (0 + (((List.length slices) : Nat) : Int))) < 0) then
    none
  else
  bif decide ((w64 ((w64 (0 + (((List.length slices) : Nat) : Int))) + (((List.length slices1) : Nat) : Int))) < 0) then
    none
  else
    F0 k (w64 ((w64 (0 + (((List.length slices) : Nat) : Int))) + (((List.length slices1) : Nat) : Int)))
      (fun v =>
        bif decide (((List.length v) + (List.length slices)) ≤ big) then
          bif decide (((List.length (v ++ slices)) + (List.length slices1)) ≤ big) then
            r0 ((v ++ slices) ++ slices1)
          else
            none
        else
          none)
      (
        bif decide ((List.length slices) ≤ big) then
          bif decide (((List.length slices) + (List.length slices1)) ≤ big) then
            r0 (slices ++ slices1)
          else
            none
        else
          none)
theorem h29_g {α : Type} (F0 : T22 α) (n : Nat) : GenF (α := α) Try.prog Try.f29 S25 (h29_x F0 n) n (h29_b F0) := by intro _ _ _; kernel_rfl
theorem h29_good {α : Type} : ∀ n, GoodFn (α := α) Try.prog 29 (byShape S25.sh (callS S25 slices_Concat_impl_Point_impl_Point_0M2 n)) := good_of Try.func29 (by kernel_rfl) (by kernel_rfl) (by kernel_rfl) eqs_ok (fun n => h29_g slices_Grow_impl_Point_impl_Point_0N n) (by delta h29_b slices_Concat_impl_Point_impl_Point_0M2; rfl) (allC h46_good allN) allN

/-! loop.example/g01297/impl.small -/
abbrev h49_x {α : Type} (F0 : T2 α) : Nat → Ctx α := ctxS false M eqs jt0 [⟨47, S3, F0⟩] []
def h49_b {α : Type} (F0 : T2 α) (k : Nat) (a : Int) (a1 : Int) (r0 : Bool → Option α) : Option α :=
  F0 k a (-1000) 1000 fun v =>
  bif v then
    F0 k a1 (-1000) 1000 fun v1 =>
    r0 v1
  else
    r0 false
theorem h49_g {α : Type} (F0 : T2 α) (n : Nat) : GenF (α := α) Try.prog Try.f49 S5 (h49_x F0 n) n (h49_b F0) := by intro _ _ _; kernel_rfl
theorem h49_good {α : Type} : ∀ n, GoodFn (α := α) Try.prog 49 (byShape S5.sh (callS S5 impl_small n)) := good_of Try.func49 (by kernel_rfl) (by kernel_rfl) (by kernel_rfl) eqs_ok (fun n => h49_g impl_in n) (by delta h49_b impl_small; rfl) (allC h47_good allN) allN

/-! loop.example/g01297/impl.IsPolygon$1 -/
abbrev h48_x {α : Type} (F0 : T4 α) : Nat → Ctx α := ctxS false M eqs jt0 [⟨49, S5, F0⟩] []
def h48_b {α : Type} (F0 : T4 α) (k : Nat) (a : Int) (a1 : Int) (r0 : Bool → Option α) : Option α :=
  F0 k a a1 fun v =>
  r0 (!v)
theorem h48_g {α : Type} (F0 : T4 α) (n : Nat) : GenF (α := α) Try.prog Try.f48 S5 (h48_x F0 n) n (h48_b F0) := by intro _ _ _; kernel_rfl
theorem h48_good {α : Type} : ∀ n, GoodFn (α := α) Try.prog 48 (byShape S5.sh (callS S5 impl_IsPolygon_1 n)) := good_of Try.func48 (by kernel_rfl) (by kernel_rfl) (by kernel_rfl) eqs_ok (fun n => h48_g impl_small n) (by delta h48_b impl_IsPolygon_1; rfl) (allC h49_good allN) allN

/-! slices.IndexFunc[[]loop.example/g01297/impl.Point,loop.example/g01297/impl.Point] -/
def h39a_t2 : Tpl := ⟨(.sl 0 :: (.fn 48 [] :: (anyN 5 (.int .i64 :: (.int .i64 :: (anyN 10 [])))))), [(0, .rows 0 33 .pt)], [], false⟩
def h39a_p2 : PcS := loopS [.int, .int, .rows .pt] [0]
abbrev h39a_x {α : Type} (F0 : T4 α) (G2 : T19 α) : Nat → Ctx α := ctxS false M eqs jt0 [⟨48, S5, F0⟩] [lpT 2 h39a_t2 h39a_p2 R0 G2]
def h39a_b2 {α : Type} (F0 : T4 α) (G2 : T19 α) (k : Nat) (x : Int) (x1 : Int) (s1 : List (Int × Int)) (b0 : Int → Int → (List (Int × Int)) → Option α) (r0 : Int → Option α) : Option α :=
  bif decide (x1 < x) then
    bif (decide (0 ≤ x1) && decide (x1 < (((List.length s1) : Nat) : Int))) then
      (s1[x1.toNat]?).bind fun e_ =>
      F0 k e_.1 e_.2 fun v =>
      bif v then
        r0 x1
      else
        G2 k x (w64 (x1 + 1)) s1 b0 r0
    else
      none
  else
    b0 x x1 s1
theorem h39a_g2 {α : Type} (F0 : T4 α) (G2 : T19 α) (n : Nat) : GenL (α := α) Try.prog Try.f39 S26 (h39a_x F0 G2 n) 2 h39a_t2 h39a_p2 n G2 (h39a_b2 F0 G2) := by intro _ _ _ _ _; kernel_rfl
def h39a_b {α : Type} (G2 : T19 α) (k : Nat) (s : List (Int × Int)) (r0 : Int → Option α) : Option α :=
  G2 k (((List.length s) : Nat) : Int) 0 s
    (fun _ _ _ =>
      r0 (-1))
    r0
theorem h39a_g {α : Type} (F0 : T4 α) (G2 : T19 α) (n : Nat) : GenF (α := α) Try.prog Try.f39 S26 (h39a_x F0 G2 n) n (h39a_b G2) := by intro _ _; kernel_rfl
theorem h39a_good {α : Type} : ∀ n, GoodFn (α := α) Try.prog 39 (byShape S26.sh (callS S26 slices_IndexFunc_impl_Point_impl_Point_1F_impl_IsPolygon_1 n)) := good_of Try.func39 (by kernel_rfl) (by kernel_rfl) (by kernel_rfl) eqs_ok (fun n => h39a_g impl_IsPolygon_1 slices_IndexFunc_impl_Point_impl_Point_1F_impl_IsPolygon_1_l2 n) (by delta h39a_b slices_IndexFunc_impl_Point_impl_Point_1F_impl_IsPolygon_1; rfl) (allC h48_good allN) (allC (loop_fine (by kernel_rfl) (fun n => by delta h39a_b2; funext _ _ _ _ _; exact (slices_IndexFunc_impl_Point_impl_Point_1F_impl_IsPolygon_1_l2.eq_2 ..).symm) (fun n => h39a_g2 impl_IsPolygon_1 slices_IndexFunc_impl_Point_impl_Point_1F_impl_IsPolygon_1_l2 n)) allN)

/-! slices.ContainsFunc[[]loop.example/g01297/impl.Point,loop.example/g01297/impl.Point] -/
abbrev h20a_x {α : Type} (F0 : T6 α) : Nat → Ctx α := ctxS false M eqs jt0 [⟨39, S26, F0⟩] []
def h20a_b {α : Type} (F0 : T6 α) (k : Nat) (s : List (Int × Int)) (r0 : Bool → Option α) : Option α :=
  F0 k s fun v =>
  r0 (decide (0 ≤ v))
theorem h20a_g {α : Type} (F0 : T6 α) (n : Nat) : GenF (α := α) Try.prog Try.f20 S27 (h20a_x F0 n) n (h20a_b F0) := by intro _ _; kernel_rfl
theorem h20a_good {α : Type} : ∀ n, GoodFn (α := α) Try.prog 20 (byShape S27.sh (callS S27 slices_ContainsFunc_impl_Point_impl_Point_1F_impl_IsPolygon_1 n)) := good_of Try.func20 (by kernel_rfl) (by kernel_rfl) (by kernel_rfl) eqs_ok (fun n => h20a_g slices_IndexFunc_impl_Point_impl_Point_1F_impl_IsPolygon_1 n) (by delta h20a_b slices_ContainsFunc_impl_Point_impl_Point_1F_impl_IsPolygon_1; rfl) (allC h39a_good allN) allN

/-! (loop.example/g01297/impl.polygon).next -/
abbrev h65_x {α : Type}  : Nat → Ctx α := ctxS false M eqs jt0 [] []
def h65_b {α : Type}  (_ : Nat) (p_ : List (Int × Int)) (i : Int) (r0 : Int → Int → Option α) : Option α :=
  bif decide ((((List.length p_) : Nat) : Int) = 0) then
    none
  else
  bif (decide (0 ≤ (Int.tmod (w64 (i + 1)) (((List.length p_) : Nat) : Int))) && decide ((Int.tmod (w64 (i + 1)) (((List.length p_) : Nat) : Int)) < (((List.length p_) : Nat) : Int))) then
    (p_[(Int.tmod (w64 (i + 1)) (((List.length p_) : Nat) : Int)).toNat]?).bind fun e_ =>
    r0 e_.1 e_.2
  else
    none
theorem h65_g {α : Type}  (n : Nat) : GenF (α := α) Try.prog Try.f65 S28 (h65_x n) n (h65_b) := by intro _ _ _; kernel_rfl
theorem h65_good {α : Type} : ∀ n, GoodFn (α := α) Try.prog 65 (byShape S28.sh (callS S28 impl_polygon_next n)) := good_of Try.func65 (by kernel_rfl) (by kernel_rfl) (by kernel_rfl) eqs_ok (fun n => h65_g n) (by delta h65_b impl_polygon_next; rfl) allN allN

/-! (loop.example/g01297/impl.Point).plus -/
abbrev h71_x {α : Type}  : Nat → Ctx α := ctxS false M eqs jt0 [] []
def h71_b {α : Type}  (_ : Nat) (a : Int) (a1 : Int) (b_ : Int) (b_1 : Int) (k_ : Int) (r0 : Int → Int → Option α) : Option α :=
  r0 (w64 (a + (w64 (k_ * b_)))) (w64 (a1 + (w64 (k_ * b_1))))
theorem h71_g {α : Type}  (n : Nat) : GenF (α := α) Try.prog Try.f71 S8 (h71_x n) n (h71_b) := by intro _ _ _ _ _ _; kernel_rfl
theorem h71_good {α : Type} : ∀ n, GoodFn (α := α) Try.prog 71 (byShape S8.sh (callS S8 impl_Point_plus n)) := good_of Try.func71 (by kernel_rfl) (by kernel_rfl) (by kernel_rfl) eqs_ok (fun n => h71_g n) (by delta h71_b impl_Point_plus; rfl) allN allN

/-! (loop.example/g01297/impl.Point).less -/
abbrev h64_x {α : Type} (F0 : T8 α) : Nat → Ctx α := ctxS false M eqs jt0 [⟨71, S8, F0⟩] []
def h64_b {α : Type} (F0 : T8 α) (k : Nat) (a : Int) (a1 : Int) (b_ : Int) (b_1 : Int) (r0 : Int → Int → Option α) : Option α :=
  F0 k a a1 b_ b_1 (-1) fun v v1 =>
  r0 v v1
theorem h64_g {α : Type} (F0 : T8 α) (n : Nat) : GenF (α := α) Try.prog Try.f64 S29 (h64_x F0 n) n (h64_b F0) := by intro _ _ _ _ _; kernel_rfl
theorem h64_good {α : Type} : ∀ n, GoodFn (α := α) Try.prog 64 (byShape S29.sh (callS S29 impl_Point_less n)) := good_of Try.func64 (by kernel_rfl) (by kernel_rfl) (by kernel_rfl) eqs_ok (fun n => h64_g impl_Point_plus n) (by delta h64_b impl_Point_less; rfl) (allC h71_good allN) allN

/-! loop.example/g01297/impl.det -/
abbrev h63_x {α : Type}  : Nat → Ctx α := ctxS false M eqs jt0 [] []
def h63_b {α : Type}  (_ : Nat) (a : Int) (a1 : Int) (b_ : Int) (b_1 : Int) (r0 : Int → Option α) : Option α :=
  r0 (w64 ((w64 (a * b_1)) - (w64 (a1 * b_))))
theorem h63_g {α : Type}  (n : Nat) : GenF (α := α) Try.prog Try.f63 S9 (h63_x n) n (h63_b) := by intro _ _ _ _ _; kernel_rfl
theorem h63_good {α : Type} : ∀ n, GoodFn (α := α) Try.prog 63 (byShape S9.sh (callS S9 impl_det n)) := good_of Try.func63 (by kernel_rfl) (by kernel_rfl) (by kernel_rfl) eqs_ok (fun n => h63_g n) (by delta h63_b impl_det; rfl) allN allN

/-! loop.example/g01297/impl.turn -/
abbrev h45_x {α : Type} (F0 : T23 α) (F1 : T9 α) : Nat → Ctx α := ctxS false M eqs jt0 [⟨64, S29, F0⟩, ⟨63, S9, F1⟩] []
def h45_b {α : Type} (F0 : T23 α) (F1 : T9 α) (k : Nat) (a : Int) (a1 : Int) (b_ : Int) (b_1 : Int) (c : Int) (c1 : Int) (r0 : Int → Option α) : Option α :=
  F0 k b_ b_1 a a1 fun v v1 =>
  F0 k c c1 b_ b_1 fun v2 v3 =>
  F1 k v v1 v2 v3 fun v4 =>
  r0 v4
theorem h45_g {α : Type} (F0 : T23 α) (F1 : T9 α) (n : Nat) : GenF (α := α) Try.prog Try.f45 S11 (h45_x F0 F1 n) n (h45_b F0 F1) := by intro _ _ _ _ _ _ _; kernel_rfl
theorem h45_good {α : Type} : ∀ n, GoodFn (α := α) Try.prog 45 (byShape S11.sh (callS S11 impl_turn n)) := good_of Try.func45 (by kernel_rfl) (by kernel_rfl) (by kernel_rfl) eqs_ok (fun n => h45_g impl_Point_less impl_det n) (by delta h45_b impl_turn; rfl) (allC h64_good (allC h63_good allN)) allN

/-! (loop.example/g01297/impl.polygon).convex -/
def h50_t6 : Tpl := ⟨(.sl 0 :: (.any :: (.any :: (.int .i64 :: (.ptr 256 0 0 :: (.ptr 320 0 0 :: (.any :: (.any :: (.sl 0 :: (.int .i64 :: (.int .i64 :: (anyN 7 (.sl 0 :: (.int .i64 :: (.int .i64 :: (anyN 25 [])))))))))))))))), [(0, .rows 0 33 .pt), (256, .ints 2 33 .i64 2), (320, .ints 2 33 .i64 2)], [], false⟩
def h50_p6 : PcS := loopS [.int, .int, .int, .int, .int, .rows .pt, .int, .int, .int, .int] [2]
def h50_t2 : Tpl := ⟨(.sl 0 :: (anyN 7 (.sl 0 :: (.int .i64 :: (.int .i64 :: (anyN 35 [])))))), [(0, .rows 0 33 .pt)], [], false⟩
def h50_p2 : PcS := loopS [.int, .int, .rows .pt] [0]
abbrev h50_x {α : Type} (F0 : T24 α) (F1 : T13 α) (G6 : T25 α) (G2 : T26 α) : Nat → Ctx α := ctxS false M eqs jt0 [⟨65, S28, F0⟩, ⟨45, S11, F1⟩] [lpT 6 h50_t6 h50_p6 R3 G6, lpT 2 h50_t2 h50_p2 R3 G2]
def h50_b6 {α : Type} (F1 : T13 α) (G6 : T25 α) (k : Nat) (i : Int) (x2 : Int) (x3 : Int) (x4 : Int) (x5 : Int) (p_2 : List (Int × Int)) (a : Int) (a1 : Int) (b_ : Int) (b_1 : Int) (b2 : Int → Int → Int → Int → Int → (List (Int × Int)) → Int → Int → Int → Int → Option α) (r0 : Bool → Option α) : Option α :=
  bif decide (x5 < x4) then
    bif (decide (0 ≤ x5) && decide (x5 < (((List.length p_2) : Nat) : Int))) then
      (p_2[x5.toNat]?).bind fun e_1 =>
      bif (!decide (x5 = i)) then
        bif decide ((((List.length p_2) : Nat) : Int) = 0) then
          none
        else
        bif (!decide (x5 = (Int.tmod (w64 (i + 1)) (((List.length p_2) : Nat) : Int)))) then
          F1 k a a1 b_ b_1 e_1.1 e_1.2 fun v2 =>
          bif decide (v2 ≤ 0) then
            r0 false
          else
            G6 k i x2 x3 x4 (w64 (x5 + 1)) p_2 a a1 b_ b_1 b2 r0
        else
          G6 k i x2 x3 x4 (w64 (x5 + 1)) p_2 a a1 b_ b_1 b2 r0
      else
        G6 k i x2 x3 x4 (w64 (x5 + 1)) p_2 a a1 b_ b_1 b2 r0
    else
      none
  else
    b2 i x2 x3 x4 x5 p_2 a a1 b_ b_1
theorem h50_g6 {α : Type} (F0 : T24 α) (F1 : T13 α) (G6 : T25 α) (G2 : T26 α) (n : Nat) : GenL (α := α) Try.prog Try.f50 S13 (h50_x F0 F1 G6 G2 n) 6 h50_t6 h50_p6 n G6 (h50_b6 F1 G6) := by intro _ _ _ _ _ _ _ _ _ _ _ _; kernel_rfl
def h50_b2 {α : Type} (F0 : T24 α) (G6 : T25 α) (G2 : T26 α) (k : Nat) (x : Int) (x1 : Int) (p_1 : List (Int × Int)) (b0 : Int → Int → (List (Int × Int)) → Option α) (r0 : Bool → Option α) : Option α :=
  bif decide (x1 < x) then
    bif (decide (0 ≤ x1) && decide (x1 < (((List.length p_1) : Nat) : Int))) then
      (p_1[x1.toNat]?).bind fun e_ =>
      F0 k p_1 x1 fun v v1 =>
      G6 k x1 x x1 (((List.length p_1) : Nat) : Int) 0 p_1 e_.1 e_.2 v v1
        (fun _ x6 x7 _ _ p_3 _ _ _ _ =>
          G2 k x6 (w64 (x7 + 1)) p_3 b0 r0)
        r0
    else
      none
  else
    b0 x x1 p_1
theorem h50_g2 {α : Type} (F0 : T24 α) (F1 : T13 α) (G6 : T25 α) (G2 : T26 α) (n : Nat) : GenL (α := α) Try.prog Try.f50 S13 (h50_x F0 F1 G6 G2 n) 2 h50_t2 h50_p2 n G2 (h50_b2 F0 G6 G2) := by intro _ _ _ _ _; kernel_rfl
def h50_b {α : Type} (G2 : T26 α) (k : Nat) (p_ : List (Int × Int)) (r0 : Bool → Option α) : Option α :=
  G2 k (((List.length p_) : Nat) : Int) 0 p_
    (fun _ _ _ =>
      r0 true)
    r0
theorem h50_g {α : Type} (F0 : T24 α) (F1 : T13 α) (G6 : T25 α) (G2 : T26 α) (n : Nat) : GenF (α := α) Try.prog Try.f50 S13 (h50_x F0 F1 G6 G2 n) n (h50_b G2) := by intro _ _; kernel_rfl
theorem h50_good {α : Type} : ∀ n, GoodFn (α := α) Try.prog 50 (byShape S13.sh (callS S13 impl_polygon_convex n)) := good_of Try.func50 (by kernel_rfl) (by kernel_rfl) (by kernel_rfl) eqs_ok (fun n => h50_g impl_polygon_next impl_turn impl_polygon_convex_l6 impl_polygon_convex_l2 n) (by delta h50_b impl_polygon_convex; rfl) (allC h65_good (allC h45_good allN)) (allC (loop_fine (by kernel_rfl) (fun n => by delta h50_b6; funext _ _ _ _ _ _ _ _ _ _ _ _; exact (impl_polygon_convex_l6.eq_2 ..).symm) (fun n => h50_g6 impl_polygon_next impl_turn impl_polygon_convex_l6 impl_polygon_convex_l2 n)) (allC (loop_fine (by kernel_rfl) (fun n => by delta h50_b2; funext _ _ _ _ _; exact (impl_polygon_convex_l2.eq_2 ..).symm) (fun n => h50_g2 impl_polygon_next impl_turn impl_polygon_convex_l6 impl_polygon_convex_l2 n)) allN))

/-! loop.example/g01297/impl.IsPolygon -/
abbrev h30_x {α : Type} (F0 : T2 α) (F1 : T17 α) (F2 : T17 α) : Nat → Ctx α := ctxS false M eqs jt0 [⟨47, S3, F0⟩, ⟨20, S27, F1⟩, ⟨50, S13, F2⟩] []
def h30_b {α : Type} (F0 : T2 α) (F1 : T17 α) (F2 : T17 α) (k : Nat) (list : List (Int × Int)) (r0 : Bool → Option α) : Option α :=
  F0 k (((List.length list) : Nat) : Int) 3 12 fun v =>
  bif (!v) then
    r0 false
  else
    F1 k list fun v1 =>
    bif v1 then
      r0 false
    else
      F2 k list fun v2 =>
      r0 v2
theorem h30_g {α : Type} (F0 : T2 α) (F1 : T17 α) (F2 : T17 α) (n : Nat) : GenF (α := α) Try.prog Try.f30 S13 (h30_x F0 F1 F2 n) n (h30_b F0 F1 F2) := by intro _ _; kernel_rfl
theorem h30_good {α : Type} : ∀ n, GoodFn (α := α) Try.prog 30 (byShape S13.sh (callS S13 impl_IsPolygon n)) := good_of Try.func30 (by kernel_rfl) (by kernel_rfl) (by kernel_rfl) eqs_ok (fun n => h30_g impl_in slices_ContainsFunc_impl_Point_impl_Point_1F_impl_IsPolygon_1 impl_polygon_convex n) (by delta h30_b impl_IsPolygon; rfl) (allC h47_good (allC h20a_good (allC h50_good allN))) allN

/-! slices.SortFunc[[]loop.example/g01297/impl.Point,loop.example/g01297/impl.Point] -/
theorem h24a_good {α : Type} : ∀ n, GoodFn (α := α) Try.prog 24 (byShape S30.sh (callS S30 slices_SortFunc_impl_Point_impl_Point_1F_impl_pointOrder n)) := sort_good (t := .pt) h24_lay rfl Try.isAgg33 Try.sizeOf33 (h25_good (α := Int)) (by intro _ _ _; kernel_rfl) (fun _ _ _ => rfl)

/-! slices.Compact[[]loop.example/g01297/impl.Point,loop.example/g01297/impl.Point] -/
def h26a_t9 : Tpl := ⟨(.sl 0 :: (.any :: (.any :: (.int .i64 :: (.sub 0 :: (.int .i64 :: (anyN 55 []))))))), [(0, .rows 1 33 .pt)], [], false⟩
def h26a_p9 : PcS := loopS [.int, .nat, .nat, .int, .rows .pt] [2]
def h26a_t4 : Tpl := ⟨(.sl 0 :: (.any :: (.any :: (.int .i64 :: (anyN 57 []))))), [(0, .rows 1 33 .pt)], [], false⟩
def h26a_p4 : PcS := loopS [.int, .rows .pt] [0]
abbrev h26a_x {α : Type} (G9 : T27 α) (G4 : T28 α) : Nat → Ctx α := ctxS false M eqs jt0 [] [lpT 9 h26a_t9 h26a_p9 R10 G9, lpT 4 h26a_t4 h26a_p4 R10 G4]
def h26a_b9 {α : Type} (G9 : T27 α) (k : Nat) (k_1 : Int) (s2_ : Nat) (s2_1 : Nat) (k2_ : Int) (s2 : List (Int × Int)) (b2 : Int → Nat → Nat → Int → (List (Int × Int)) → Option α) (r0 : (List (Int × Int)) → Option α) : Option α :=
  bif decide (k2_ < ((s2_1 : Nat) : Int)) then
    bif (decide (0 ≤ k2_) && decide (k2_ < ((s2_1 : Nat) : Int))) then
      (s2[(moved s2_ k2_.toNat 1)]?).bind fun e_2 =>
      bif (decide (0 ≤ (w64 (k2_ - 1))) && decide ((w64 (k2_ - 1)) < ((s2_1 : Nat) : Int))) then
        (s2[(moved s2_ ((w64 (k2_ - 1)).toNat) 1)]?).bind fun e_3 =>
        bif (!(decide (e_2.1 = e_3.1) && decide (e_2.2 = e_3.2))) then
          bif (decide (0 ≤ k2_) && decide (k2_ < ((s2_1 : Nat) : Int))) then
            (s2[(moved s2_ k2_.toNat 1)]?).bind fun e_4 =>
            bif (decide (0 ≤ k_1) && decide (k_1 < (((List.length s2) : Nat) : Int))) then
              (s2[k_1.toNat]?).bind fun _ =>
              G9 k (w64 (k_1 + 1)) s2_ s2_1 (w64 (k2_ + 1)) (List.set s2 k_1.toNat (e_4.1, e_4.2)) b2 r0
            else
              none
          else
            none
        else
          G9 k k_1 s2_ s2_1 (w64 (k2_ + 1)) s2 b2 r0
      else
        none
    else
      none
  else
    b2 k_1 s2_ s2_1 k2_ s2
theorem h26a_g9 {α : Type} (G9 : T27 α) (G4 : T28 α) (n : Nat) : GenL (α := α) Try.prog Try.f26 S31 (h26a_x G9 G4 n) 9 h26a_t9 h26a_p9 n G9 (h26a_b9 G9) := by intro _ _ _ _ _ _ _ _; kernel_rfl
def h26a_b4 {α : Type} (G9 : T27 α) (G4 : T28 α) (k : Nat) (k_ : Int) (s1 : List (Int × Int)) (b0 : Int → (List (Int × Int)) → Option α) (r0 : (List (Int × Int)) → Option α) : Option α :=
  bif decide (k_ < (((List.length s1) : Nat) : Int)) then
    bif (decide (0 ≤ k_) && decide (k_ < (((List.length s1) : Nat) : Int))) then
      (s1[k_.toNat]?).bind fun e_ =>
      bif (decide (0 ≤ (w64 (k_ - 1))) && decide ((w64 (k_ - 1)) < (((List.length s1) : Nat) : Int))) then
        (s1[(w64 (k_ - 1)).toNat]?).bind fun e_1 =>
        bif (decide (e_.1 = e_1.1) && decide (e_.2 = e_1.2)) then
          bif (decide (0 ≤ k_) && decide (k_ ≤ (((List.length s1) : Nat) : Int))) then
            G9 k k_ k_.toNat ((List.length s1) - k_.toNat) 1 s1
              (fun k_2 _ _ _ s3 =>
                bif (decide (0 ≤ k_2) && decide (k_2 ≤ (((List.length s3) : Nat) : Int))) then
                  bif (decide (0 ≤ k_2) && decide (k_2 ≤ (((List.length (((List.take k_2.toNat s3) ++ (List.replicate ((List.length s3) - k_2.toNat) (0, 0))) ++ (List.drop (k_2.toNat + ((List.length s3) - k_2.toNat)) s3))) : Nat) : Int))) then
                    r0 (List.take (k_2.toNat - 0) (((List.take k_2.toNat s3) ++ (List.replicate ((List.length s3) - k_2.toNat) (0, 0))) ++ (List.drop (k_2.toNat + ((List.length s3) - k_2.toNat)) s3)))
                  else
                    none
                else
                  none)
              r0
          else
            none
        else
          G4 k (w64 (k_ + 1)) s1 b0 r0
      else
        none
    else
      none
  else
    b0 k_ s1
theorem h26a_g4 {α : Type} (G9 : T27 α) (G4 : T28 α) (n : Nat) : GenL (α := α) Try.prog Try.f26 S31 (h26a_x G9 G4 n) 4 h26a_t4 h26a_p4 n G4 (h26a_b4 G9 G4) := by intro _ _ _ _ _; kernel_rfl
def h26a_b {α : Type} (G4 : T28 α) (k : Nat) (s : List (Int × Int)) (r0 : (List (Int × Int)) → Option α) : Option α :=
  bif decide ((((List.length s) : Nat) : Int) < 2) then
    r0 s
  else
    G4 k 1 s
      (fun _ s4 =>
        r0 s4)
      r0
theorem h26a_g {α : Type} (G9 : T27 α) (G4 : T28 α) (n : Nat) : GenF (α := α) Try.prog Try.f26 S31 (h26a_x G9 G4 n) n (h26a_b G4) := by intro _ _; kernel_rfl
theorem h26a_good {α : Type} : ∀ n, GoodFn (α := α) Try.prog 26 (byShape S31.sh (callS S31 slices_Compact_impl_Point_impl_Point n)) := good_of Try.func26 (by kernel_rfl) (by kernel_rfl) (by kernel_rfl) eqs_ok (fun n => h26a_g slices_Compact_impl_Point_impl_Point_l9 slices_Compact_impl_Point_impl_Point_l4 n) (by delta h26a_b slices_Compact_impl_Point_impl_Point; rfl) allN (allC (loop_fine (by kernel_rfl) (fun n => by delta h26a_b9; funext _ _ _ _ _ _ _; exact (slices_Compact_impl_Point_impl_Point_l9.eq_2 ..).symm) (fun n => h26a_g9 slices_Compact_impl_Point_impl_Point_l9 slices_Compact_impl_Point_impl_Point_l4 n)) (allC (loop_fine (by kernel_rfl) (fun n => by delta h26a_b4; funext _ _ _ _; exact (slices_Compact_impl_Point_impl_Point_l4.eq_2 ..).symm) (fun n => h26a_g4 slices_Compact_impl_Point_impl_Point_l9 slices_Compact_impl_Point_impl_Point_l4 n)) allN))

/-! loop.example/g01297/impl.chain -/
def h27a_t5 : Tpl := ⟨(.any :: (.any :: (.any :: (.sl 384 :: (.any :: (.ptr 320 0 0 :: (.any :: (.sl 0 :: (.int .i64 :: (.int .i64 :: (anyN 39 []))))))))))), [(384, .rows 2 33 .pt), (320, .ints 2 33 .i64 2), (0, .rows 0 33 .pt)], [(3, 384, 33, .pt)], false⟩
def h27a_p5 : PcS := loopS [.int, .int, .rows .pt, .int, .int, .rows .pt] [2]
def h27a_t3 : Tpl := ⟨(.any :: (.any :: (.any :: (.sl 384 :: (.any :: (.any :: (.any :: (.sl 0 :: (.int .i64 :: (.int .i64 :: (anyN 39 []))))))))))), [(384, .rows 2 33 .pt), (0, .rows 0 33 .pt)], [], false⟩
def h27a_p3 : PcS := loopS [.int, .int, .rows .pt, .rows .pt] [0]
abbrev h27a_x {α : Type} (F0 : T13 α) (G5 : T29 α) (G3 : T30 α) : Nat → Ctx α := ctxS false M eqs jt0 [⟨45, S11, F0⟩] [lpT 5 h27a_t5 h27a_p5 R2 G5, lpT 3 h27a_t3 h27a_p3 R2 G3]
def h27a_b5 {α : Type} (F0 : T13 α) (G5 : T29 α) (k : Nat) (x3 : Int) (x4 : Int) (out1 : List (Int × Int)) (c : Int) (c1 : Int) (x5 : List (Int × Int)) (b2 : Int → Int → (List (Int × Int)) → Int → Int → (List (Int × Int)) → Option α) (r0 : (List (Int × Int)) → Option α) : Option α :=
  bif decide (1 < (((List.length out1) : Nat) : Int)) then
    bif (decide (0 ≤ (w64 ((((List.length out1) : Nat) : Int) - 2))) && decide ((w64 ((((List.length out1) : Nat) : Int) - 2)) < (((List.length out1) : Nat) : Int))) then
      (out1[(w64 ((((List.length out1) : Nat) : Int) - 2)).toNat]?).bind fun e_1 =>
      bif (decide (0 ≤ (w64 ((((List.length out1) : Nat) : Int) - 1))) && decide ((w64 ((((List.length out1) : Nat) : Int) - 1)) < (((List.length out1) : Nat) : Int))) then
        (out1[(w64 ((((List.length out1) : Nat) : Int) - 1)).toNat]?).bind fun e_2 =>
        F0 k e_1.1 e_1.2 e_2.1 e_2.2 c c1 fun v =>
        bif decide (v ≤ 0) then
          bif (decide (0 ≤ (w64 ((((List.length out1) : Nat) : Int) - 1))) && decide ((w64 ((((List.length out1) : Nat) : Int) - 1)) ≤ (((List.length out1) : Nat) : Int))) then
            G5 k x3 x4 (List.take ((w64 ((((List.length out1) : Nat) : Int) - 1)).toNat - 0) out1) c c1 x5 b2 r0
          else
            none
        else
          b2 x3 x4 out1 c c1 x5
      else
        none
    else
      none
  else
    b2 x3 x4 out1 c c1 x5
theorem h27a_g5 {α : Type} (F0 : T13 α) (G5 : T29 α) (G3 : T30 α) (n : Nat) : GenL (α := α) Try.prog Try.f27 S10 (h27a_x F0 G5 G3 n) 5 h27a_t5 h27a_p5 n G5 (h27a_b5 F0 G5) := by intro _ _ _ _ _ _ _ _; kernel_rfl
def h27a_b3 {α : Type} (G5 : T29 α) (G3 : T30 α) (k : Nat) (x : Int) (x1 : Int) (out : List (Int × Int)) (x2 : List (Int × Int)) (b0 : Int → Int → (List (Int × Int)) → (List (Int × Int)) → Option α) (r0 : (List (Int × Int)) → Option α) : Option α :=
  bif decide (x1 < x) then
    bif (decide (0 ≤ x1) && decide (x1 < (((List.length x2) : Nat) : Int))) then
      (x2[x1.toNat]?).bind fun e_ =>
      G5 k x x1 out e_.1 e_.2 x2
        (fun x6 x7 out2 c2 c3 x8 =>
          bif decide (((List.length out2) + 1) ≤ big) then
            G3 k x6 (w64 (x7 + 1)) (out2 ++ [(c2, c3)]) x8 b0 r0
          else
            none)
        r0
    else
      none
  else
    b0 x x1 out x2
theorem h27a_g3 {α : Type} (F0 : T13 α) (G5 : T29 α) (G3 : T30 α) (n : Nat) : GenL (α := α) Try.prog Try.f27 S10 (h27a_x F0 G5 G3 n) 3 h27a_t3 h27a_p3 n G3 (h27a_b3 G5 G3) := by intro _ _ _ _ _ _; kernel_rfl
def h27a_b {α : Type} (G3 : T30 α) (k : Nat) (list : List (Int × Int)) (r0 : (List (Int × Int)) → Option α) : Option α :=
  G3 k (((List.length list) : Nat) : Int) 0 [] list
    (fun _ _ out3 _ =>
      bif (decide (0 ≤ (max (w64 ((((List.length out3) : Nat) : Int) - 1)) 0)) && decide ((max (w64 ((((List.length out3) : Nat) : Int) - 1)) 0) ≤ (((List.length out3) : Nat) : Int))) then
        r0 (List.take ((max (w64 ((((List.length out3) : Nat) : Int) - 1)) 0).toNat - 0) out3)
      else
        none)
    r0
theorem h27a_g {α : Type} (F0 : T13 α) (G5 : T29 α) (G3 : T30 α) (n : Nat) : GenF (α := α) Try.prog Try.f27 S10 (h27a_x F0 G5 G3 n) n (h27a_b G3) := by intro _ _; kernel_rfl
theorem h27a_good {α : Type} : ∀ n, GoodFn (α := α) Try.prog 27 (byShape S10.sh (callS S10 impl_chain n)) := good_of Try.func27 (by kernel_rfl) (by kernel_rfl) (by kernel_rfl) eqs_ok (fun n => h27a_g impl_turn impl_chain_l5 impl_chain_l3 n) (by delta h27a_b impl_chain; rfl) (allC h45_good allN) (allC (loop_fine (by kernel_rfl) (fun n => by delta h27a_b5; funext _ _ _ _ _ _ _ _; exact (impl_chain_l5.eq_2 ..).symm) (fun n => h27a_g5 impl_turn impl_chain_l5 impl_chain_l3 n)) (allC (loop_fine (by kernel_rfl) (fun n => by delta h27a_b3; funext _ _ _ _ _ _; exact (impl_chain_l3.eq_2 ..).symm) (fun n => h27a_g3 impl_turn impl_chain_l5 impl_chain_l3 n)) allN))

/-! slices.Reverse[[]loop.example/g01297/impl.Point,loop.example/g01297/impl.Point] -/
def h28a_t1 : Tpl := ⟨(.sl 0 :: (.any :: (.int .i64 :: (.int .i64 :: (anyN 24 []))))), [(0, .rows 1 33 .pt)], [], false⟩
def h28a_p1 : PcS := loopS [.int, .int, .rows .pt] [0]
abbrev h28a_x {α : Type} (G1 : T31 α) : Nat → Ctx α := ctxS false M eqs jt0 [] [lpT 1 h28a_t1 h28a_p1 R9 G1]
def h28a_b1 {α : Type} (G1 : T31 α) (k : Nat) (i : Int) (j : Int) (s1 : List (Int × Int)) (b0 : Int → Int → (List (Int × Int)) → Option α) (r0 : (List (Int × Int)) → Option α) : Option α :=
  bif decide (i < j) then
    bif (decide (0 ≤ j) && decide (j < (((List.length s1) : Nat) : Int))) then
      (s1[j.toNat]?).bind fun e_ =>
      bif (decide (0 ≤ i) && decide (i < (((List.length s1) : Nat) : Int))) then
        (s1[i.toNat]?).bind fun e_1 =>
        bif (decide (0 ≤ i) && decide (i < (((List.length s1) : Nat) : Int))) then
          (s1[i.toNat]?).bind fun _ =>
          bif (decide (0 ≤ j) && decide (j < (((List.length (List.set s1 i.toNat (e_.1, e_.2))) : Nat) : Int))) then
            ((List.set s1 i.toNat (e_.1, e_.2))[j.toNat]?).bind fun _ =>
            G1 k (w64 (i + 1)) (w64 (j - 1)) (List.set (List.set s1 i.toNat (e_.1, e_.2)) j.toNat (e_1.1, e_1.2)) b0 r0
          else
            none
        else
          none
      else
        none
    else
      none
  else
    b0 i j s1
theorem h28a_g1 {α : Type} (G1 : T31 α) (n : Nat) : GenL (α := α) Try.prog Try.f28 S32 (h28a_x G1 n) 1 h28a_t1 h28a_p1 n G1 (h28a_b1 G1) := by intro _ _ _ _ _ _; kernel_rfl
def h28a_b {α : Type} (G1 : T31 α) (k : Nat) (s : List (Int × Int)) (r0 : (List (Int × Int)) → Option α) : Option α :=
  G1 k 0 (w64 ((((List.length s) : Nat) : Int) - 1)) s
    (fun _ _ s2 =>
      r0 s2)
    r0
theorem h28a_g {α : Type} (G1 : T31 α) (n : Nat) : GenF (α := α) Try.prog Try.f28 S32 (h28a_x G1 n) n (h28a_b G1) := by intro _ _; kernel_rfl
theorem h28a_good {α : Type} : ∀ n, GoodFn (α := α) Try.prog 28 (byShape S32.sh (callS S32 slices_Reverse_impl_Point_impl_Point n)) := good_of Try.func28 (by kernel_rfl) (by kernel_rfl) (by kernel_rfl) eqs_ok (fun n => h28a_g slices_Reverse_impl_Point_impl_Point_l1 n) (by delta h28a_b slices_Reverse_impl_Point_impl_Point; rfl) allN (allC (loop_fine (by kernel_rfl) (fun n => by delta h28a_b1; funext _ _ _ _ _; exact (slices_Reverse_impl_Point_impl_Point_l1.eq_2 ..).symm) (fun n => h28a_g1 slices_Reverse_impl_Point_impl_Point_l1 n)) allN)

/-! loop.example/g01297/impl.hull -/
abbrev h15_x {α : Type} (F0 : T32 α) (F1 : T33 α) (F2 : T33 α) (F3 : T34 α) (F4 : T33 α) (F5 : T35 α) (F6 : T17 α) (F7 : T16 α) (F8 : T16 α) (F9 : T16 α) (F10 : T16 α) : Nat → Ctx α := ctxS false M eqs jt0 [⟨23, S17, F0⟩, ⟨24, S20, F1⟩, ⟨26, S21, F2⟩, ⟨27, S22, F3⟩, ⟨28, S23, F4⟩, ⟨29, S25, F5⟩, ⟨30, S13, F6⟩, ⟨24, S30, F7⟩, ⟨26, S31, F8⟩, ⟨27, S10, F9⟩, ⟨28, S32, F10⟩] []
def h15_b {α : Type} (F0 : T32 α) (F1 : T33 α) (F2 : T33 α) (F3 : T34 α) (F4 : T33 α) (F5 : T35 α) (F6 : T17 α) (F7 : T16 α) (F8 : T16 α) (F9 : T16 α) (F10 : T16 α) (k : Nat) (list : List (Int × Int)) (r0 : Int → Option α) (r1 : (List (Int × Int)) → Int → Option α) : Option α :=
  F0 k list
    (
      F1 k <|
      F2 k <|
      F3 k fun v =>
      F4 k <|
      F3 k fun v1 =>
      F5 k v v1 fun v2 =>
      bif decide ((((List.length v2) : Nat) : Int) < 3) then
        r0 5
      else
        F6 k v2 fun v3 =>
        bif (!v3) then
          r0 3
        else
          r1 v2 0)
    (fun v4 =>
      F7 k v4 fun v5 =>
      F8 k v5 fun v6 =>
      F9 k v6 fun v7 =>
      F10 k v6 fun v8 =>
      F9 k v8 fun v9 =>
      F5 k v7 v9 fun v10 =>
      bif decide ((((List.length v10) : Nat) : Int) < 3) then
        r0 5
      else
        F6 k v10 fun v11 =>
        bif (!v11) then
          r0 3
        else
          r1 v10 0)
theorem h15_g {α : Type} (F0 : T32 α) (F1 : T33 α) (F2 : T33 α) (F3 : T34 α) (F4 : T33 α) (F5 : T35 α) (F6 : T17 α) (F7 : T16 α) (F8 : T16 α) (F9 : T16 α) (F10 : T16 α) (n : Nat) : GenF (α := α) Try.prog Try.f15 S14 (h15_x F0 F1 F2 F3 F4 F5 F6 F7 F8 F9 F10 n) n (h15_b F0 F1 F2 F3 F4 F5 F6 F7 F8 F9 F10) := by intro _ _; kernel_rfl
theorem h15_good {α : Type} : ∀ n, GoodFn (α := α) Try.prog 15 (byShape S14.sh (callS S14 impl_hull n)) := good_of Try.func15 (by kernel_rfl) (by kernel_rfl) (by kernel_rfl) eqs_ok (fun n => h15_g slices_Clone_impl_Point_impl_Point slices_SortFunc_impl_Point_impl_Point_0N_1F_impl_pointOrder slices_Compact_impl_Point_impl_Point_0N impl_chain_0N slices_Reverse_impl_Point_impl_Point_0N slices_Concat_impl_Point_impl_Point_0M2 impl_IsPolygon slices_SortFunc_impl_Point_impl_Point_1F_impl_pointOrder slices_Compact_impl_Point_impl_Point impl_chain slices_Reverse_impl_Point_impl_Point n) (by delta h15_b impl_hull; rfl) (allC h23_good (allC h24_good (allC h26_good (allC h27_good (allC h28_good (allC h29_good (allC h30_good (allC h24a_good (allC h26a_good (allC h27a_good (allC h28a_good allN))))))))))) allN

/-! loop.example/g01297/impl.HullOf -/
abbrev h7_x {α : Type} (F0 : T17 α) (F1 : T18 α) : Nat → Ctx α := ctxS false M eqs jt0 [⟨14, S13, F0⟩, ⟨15, S14, F1⟩] []
def h7_b {α : Type} (F0 : T17 α) (F1 : T18 α) (k : Nat) (list : List (Int × Int)) (r0 : Int → Option α) (r1 : (List (Int × Int)) → Int → Option α) : Option α :=
  F0 k list fun v =>
  bif (!v) then
    r0 1
  else
  bif decide (100 < (((List.length list) : Nat) : Int)) then
    r0 2
  else
    F1 k list
      (fun v1 =>
        r0 v1)
      (fun v2 v3 =>
        r1 v2 v3)
theorem h7_g {α : Type} (F0 : T17 α) (F1 : T18 α) (n : Nat) : GenF (α := α) Try.prog Try.f7 S14 (h7_x F0 F1 n) n (h7_b F0 F1) := by intro _ _; kernel_rfl
theorem h7_good {α : Type} : ∀ n, GoodFn (α := α) Try.prog 7 (byShape S14.sh (callS S14 impl_HullOf n)) := good_of Try.func7 (by kernel_rfl) (by kernel_rfl) (by kernel_rfl) eqs_ok (fun n => h7_g impl_points impl_hull n) (by delta h7_b impl_HullOf; rfl) (allC h14_good (allC h15_good allN)) allN

/-! loop.example/g01297/laws.eqPointS -/
abbrev h8_x {α : Type}  : Nat → Ctx α := ctxS false M eqs jt0 [] []
def h8_b {α : Type}  (_ : Nat) (r0 : Bool → Option α) : Option α :=
  r0 true
theorem h8_g {α : Type}  (n : Nat) : GenF (α := α) Try.prog Try.f8 S33 (h8_x n) n (h8_b) := by intro _; kernel_rfl
theorem h8_good {α : Type} : ∀ n, GoodFn (α := α) Try.prog 8 (byShape S33.sh (callS S33 laws_eqPointS_0N_1N n)) := good_of Try.func8 (by kernel_rfl) (by kernel_rfl) (by kernel_rfl) eqs_ok (fun n => h8_g n) (by delta h8_b laws_eqPointS_0N_1N; rfl) allN allN

/-! loop.example/g01297/laws.eqPoint -/
abbrev h16_x {α : Type}  : Nat → Ctx α := ctxS false M eqs jt0 [] []
def h16_b {α : Type}  (_ : Nat) (a : Int) (a1 : Int) (b_ : Int) (b_1 : Int) (r0 : Bool → Option α) : Option α :=
  bif (!decide (a = b_)) then
    r0 false
  else
  bif (!decide (a1 = b_1)) then
    r0 false
  else
    r0 true
theorem h16_g {α : Type}  (n : Nat) : GenF (α := α) Try.prog Try.f16 S7 (h16_x n) n (h16_b) := by intro _ _ _ _ _; kernel_rfl
theorem h16_good {α : Type} : ∀ n, GoodFn (α := α) Try.prog 16 (byShape S7.sh (callS S7 laws_eqPoint n)) := good_of Try.func16 (by kernel_rfl) (by kernel_rfl) (by kernel_rfl) eqs_ok (fun n => h16_g n) (by delta h16_b laws_eqPoint; rfl) allN allN

/-! loop.example/g01297/laws.eqPointS -/
def h8a_t4 : Tpl := ⟨(.sl 0 :: (.sl 64 :: (.any :: (.any :: (.any :: (.int .i64 :: (anyN 21 []))))))), [(0, .rows 0 33 .pt), (64, .rows 0 33 .pt)], [], false⟩
def h8a_p4 : PcS := loopS [.int, .rows .pt, .rows .pt] [0]
abbrev h8a_x {α : Type} (F0 : T7 α) (G4 : T36 α) : Nat → Ctx α := ctxS false M eqs jt0 [⟨16, S7, F0⟩] [lpT 4 h8a_t4 h8a_p4 R3 G4]
def h8a_b4 {α : Type} (F0 : T7 α) (G4 : T36 α) (k : Nat) (i : Int) (a1 : List (Int × Int)) (b_1 : List (Int × Int)) (b0 : Int → (List (Int × Int)) → (List (Int × Int)) → Option α) (r0 : Bool → Option α) : Option α :=
  bif decide (i < (((List.length a1) : Nat) : Int)) then
    bif (decide (0 ≤ i) && decide (i < (((List.length a1) : Nat) : Int))) then
      (a1[i.toNat]?).bind fun e_ =>
      bif (decide (0 ≤ i) && decide (i < (((List.length b_1) : Nat) : Int))) then
        (b_1[i.toNat]?).bind fun e_1 =>
        F0 k e_.1 e_.2 e_1.1 e_1.2 fun v =>
        bif (!v) then
          r0 false
        else
          G4 k (w64 (i + 1)) a1 b_1 b0 r0
      else
        none
    else
      none
  else
    b0 i a1 b_1
theorem h8a_g4 {α : Type} (F0 : T7 α) (G4 : T36 α) (n : Nat) : GenL (α := α) Try.prog Try.f8 S34 (h8a_x F0 G4 n) 4 h8a_t4 h8a_p4 n G4 (h8a_b4 F0 G4) := by intro _ _ _ _ _; kernel_rfl
def h8a_b {α : Type} (G4 : T36 α) (k : Nat) (a : List (Int × Int)) (b_ : List (Int × Int)) (r0 : Bool → Option α) : Option α :=
  bif (!decide ((((List.length a) : Nat) : Int) = (((List.length b_) : Nat) : Int))) then
    r0 false
  else
    G4 k 0 a b_
      (fun _ _ _ =>
        r0 true)
      r0
theorem h8a_g {α : Type} (F0 : T7 α) (G4 : T36 α) (n : Nat) : GenF (α := α) Try.prog Try.f8 S34 (h8a_x F0 G4 n) n (h8a_b G4) := by intro _ _ _; kernel_rfl
theorem h8a_good {α : Type} : ∀ n, GoodFn (α := α) Try.prog 8 (byShape S34.sh (callS S34 laws_eqPointS n)) := good_of Try.func8 (by kernel_rfl) (by kernel_rfl) (by kernel_rfl) eqs_ok (fun n => h8a_g laws_eqPoint laws_eqPointS_l4 n) (by delta h8a_b laws_eqPointS; rfl) (allC h16_good allN) (allC (loop_fine (by kernel_rfl) (fun n => by delta h8a_b4; funext _ _ _ _ _; exact (laws_eqPointS_l4.eq_2 ..).symm) (fun n => h8a_g4 laws_eqPoint laws_eqPointS_l4 n)) allN)

/-! loop.example/g01297/laws.markPointS -/
def h9_t2 : Tpl := ⟨(.sl 0 :: (.int .i64 :: (.any :: (.any :: (.any :: (.int .i64 :: (anyN 20 []))))))), [(0, .rows 1 33 .pt)], [], false⟩
def h9_p2 : PcS := loopS [.int, .int, .rows .pt] [0]
abbrev h9_x {α : Type} (G2 : T37 α) : Nat → Ctx α := ctxS false M eqs jt0 [] [lpT 2 h9_t2 h9_p2 R11 G2]
def h9_b2 {α : Type} (G2 : T37 α) (k : Nat) (k_1 : Int) (i : Int) (a1 : List (Int × Int)) (b0 : Int → Int → (List (Int × Int)) → Option α) (r0 : Int → (List (Int × Int)) → Option α) : Option α :=
  bif decide (i < (((List.length a1) : Nat) : Int)) then
    bif (decide (0 ≤ i) && decide (i < (((List.length a1) : Nat) : Int))) then
      (a1[i.toNat]?).bind fun e_ =>
      bif (decide (0 ≤ i) && decide (i < (((List.length (List.set a1 i.toNat (k_1, e_.2))) : Nat) : Int))) then
        ((List.set a1 i.toNat (k_1, e_.2))[i.toNat]?).bind fun e_1 =>
        G2 k (w64 ((w64 (k_1 + 1)) + 1)) (w64 (i + 1)) (List.set (List.set a1 i.toNat (k_1, e_.2)) i.toNat (e_1.1, (w64 (k_1 + 1)))) b0 r0
      else
        none
    else
      none
  else
    b0 k_1 i a1
theorem h9_g2 {α : Type} (G2 : T37 α) (n : Nat) : GenL (α := α) Try.prog Try.f9 S35 (h9_x G2 n) 2 h9_t2 h9_p2 n G2 (h9_b2 G2) := by intro _ _ _ _ _ _ _; kernel_rfl
def h9_b {α : Type} (G2 : T37 α) (k : Nat) (a : List (Int × Int)) (k_ : Int) (r0 : Int → (List (Int × Int)) → Option α) : Option α :=
  G2 k k_ 0 a
    (fun k_2 _ a2 =>
      r0 k_2 a2)
    r0
theorem h9_g {α : Type} (G2 : T37 α) (n : Nat) : GenF (α := α) Try.prog Try.f9 S35 (h9_x G2 n) n (h9_b G2) := by intro _ _ _; kernel_rfl
theorem h9_good {α : Type} : ∀ n, GoodFn (α := α) Try.prog 9 (byShape S35.sh (callS S35 laws_markPointS n)) := good_of Try.func9 (by kernel_rfl) (by kernel_rfl) (by kernel_rfl) eqs_ok (fun n => h9_g laws_markPointS_l2 n) (by delta h9_b laws_markPointS; rfl) allN (allC (loop_fine (by kernel_rfl) (fun n => by delta h9_b2; funext _ _ _ _ _; exact (laws_markPointS_l2.eq_2 ..).symm) (fun n => h9_g2 laws_markPointS_l2 n)) allN)

/-! loop.example/g01297/laws.markPointS -/
abbrev h9a_x {α : Type}  : Nat → Ctx α := ctxS false M eqs jt0 [] []
def h9a_b {α : Type}  (_ : Nat) (k_ : Int) (r0 : Int → Option α) : Option α :=
  r0 k_
theorem h9a_g {α : Type}  (n : Nat) : GenF (α := α) Try.prog Try.f9 S36 (h9a_x n) n (h9a_b) := by intro _ _; kernel_rfl
theorem h9a_good {α : Type} : ∀ n, GoodFn (α := α) Try.prog 9 (byShape S36.sh (callS S36 laws_markPointS_0N n)) := good_of Try.func9 (by kernel_rfl) (by kernel_rfl) (by kernel_rfl) eqs_ok (fun n => h9a_g n) (by delta h9a_b laws_markPointS_0N; rfl) allN allN

/-! loop.example/g01297/laws.heldPointS -/
abbrev h10_x {α : Type}  : Nat → Ctx α := ctxS false M eqs jt0 [] []
def h10_b {α : Type}  (_ : Nat) (k_ : Int) (r0 : Int → Option α) : Option α :=
  r0 k_
theorem h10_g {α : Type}  (n : Nat) : GenF (α := α) Try.prog Try.f10 S36 (h10_x n) n (h10_b) := by intro _ _; kernel_rfl
theorem h10_good {α : Type} : ∀ n, GoodFn (α := α) Try.prog 10 (byShape S36.sh (callS S36 laws_heldPointS_0N n)) := good_of Try.func10 (by kernel_rfl) (by kernel_rfl) (by kernel_rfl) eqs_ok (fun n => h10_g n) (by delta h10_b laws_heldPointS_0N; rfl) allN allN

/-! loop.example/g01297/laws.eqPointS -/
def h8b_t4 : Tpl := ⟨(.sl 0 :: (.nilsl :: (.any :: (.any :: (.any :: (.int .i64 :: (anyN 21 []))))))), [(0, .rows 0 33 .pt)], [], false⟩
def h8b_p4 : PcS := loopS [.int, .rows .pt] [0]
abbrev h8b_x {α : Type} (G4 : T38 α) : Nat → Ctx α := ctxS false M eqs jt0 [] [lpT 4 h8b_t4 h8b_p4 R3 G4]
def h8b_b4 {α : Type}  (_ : Nat) (i : Int) (a1 : List (Int × Int)) (b0 : Int → (List (Int × Int)) → Option α) (_ : Bool → Option α) : Option α :=
  bif decide (i < (((List.length a1) : Nat) : Int)) then
    bif (decide (0 ≤ i) && decide (i < (((List.length a1) : Nat) : Int))) then
      (a1[i.toNat]?).bind fun _ =>
      none
    else
      none
  else
    b0 i a1
theorem h8b_g4 {α : Type} (G4 : T38 α) (n : Nat) : GenL (α := α) Try.prog Try.f8 S37 (h8b_x G4 n) 4 h8b_t4 h8b_p4 n G4 (h8b_b4) := by intro _ _ _ _; kernel_rfl
def h8b_b {α : Type} (G4 : T38 α) (k : Nat) (a : List (Int × Int)) (r0 : Bool → Option α) : Option α :=
  bif (!decide ((((List.length a) : Nat) : Int) = 0)) then
    r0 false
  else
    G4 k 0 a
      (fun _ _ =>
        r0 true)
      r0
theorem h8b_g {α : Type} (G4 : T38 α) (n : Nat) : GenF (α := α) Try.prog Try.f8 S37 (h8b_x G4 n) n (h8b_b G4) := by intro _ _; kernel_rfl
theorem h8b_good {α : Type} : ∀ n, GoodFn (α := α) Try.prog 8 (byShape S37.sh (callS S37 laws_eqPointS_1N n)) := good_of Try.func8 (by kernel_rfl) (by kernel_rfl) (by kernel_rfl) eqs_ok (fun n => h8b_g laws_eqPointS_1N_l4 n) (by delta h8b_b laws_eqPointS_1N; rfl) allN (allC (loop_fine (by kernel_rfl) (fun n => by delta h8b_b4; funext _ _ _ _; exact (laws_eqPointS_1N_l4.eq_2 ..).symm) (fun n => h8b_g4 laws_eqPointS_1N_l4 n)) allN)

/-! loop.example/g01297/laws.heldPointS -/
def h10a_t2 : Tpl := ⟨(.sl 0 :: (.int .i64 :: (.any :: (.any :: (.any :: (.int .i64 :: (anyN 22 []))))))), [(0, .rows 0 33 .pt)], [], false⟩
def h10a_p2 : PcS := loopS [.int, .int, .rows .pt] [0]
abbrev h10a_x {α : Type} (G2 : T19 α) : Nat → Ctx α := ctxS false M eqs jt0 [] [lpT 2 h10a_t2 h10a_p2 R0 G2]
def h10a_b2 {α : Type} (G2 : T19 α) (k : Nat) (k_1 : Int) (i : Int) (a1 : List (Int × Int)) (b0 : Int → Int → (List (Int × Int)) → Option α) (r0 : Int → Option α) : Option α :=
  bif decide (i < (((List.length a1) : Nat) : Int)) then
    bif (decide (0 ≤ i) && decide (i < (((List.length a1) : Nat) : Int))) then
      (a1[i.toNat]?).bind fun e_ =>
      bif (!decide (e_.1 = k_1)) then
        r0 (-1)
      else
      bif (decide (0 ≤ i) && decide (i < (((List.length a1) : Nat) : Int))) then
        (a1[i.toNat]?).bind fun e_1 =>
        bif (!decide (e_1.2 = (w64 (k_1 + 1)))) then
          r0 (-1)
        else
          G2 k (w64 ((w64 (k_1 + 1)) + 1)) (w64 (i + 1)) a1 b0 r0
      else
        none
    else
      none
  else
    b0 k_1 i a1
theorem h10a_g2 {α : Type} (G2 : T19 α) (n : Nat) : GenL (α := α) Try.prog Try.f10 S38 (h10a_x G2 n) 2 h10a_t2 h10a_p2 n G2 (h10a_b2 G2) := by intro _ _ _ _ _; kernel_rfl
def h10a_b {α : Type} (G2 : T19 α) (k : Nat) (a : List (Int × Int)) (k_ : Int) (r0 : Int → Option α) : Option α :=
  G2 k k_ 0 a
    (fun k_2 _ _ =>
      r0 k_2)
    r0
theorem h10a_g {α : Type} (G2 : T19 α) (n : Nat) : GenF (α := α) Try.prog Try.f10 S38 (h10a_x G2 n) n (h10a_b G2) := by intro _ _ _; kernel_rfl
theorem h10a_good {α : Type} : ∀ n, GoodFn (α := α) Try.prog 10 (byShape S38.sh (callS S38 laws_heldPointS n)) := good_of Try.func10 (by kernel_rfl) (by kernel_rfl) (by kernel_rfl) eqs_ok (fun n => h10a_g laws_heldPointS_l2 n) (by delta h10a_b laws_heldPointS; rfl) allN (allC (loop_fine (by kernel_rfl) (fun n => by delta h10a_b2; funext _ _ _ _ _; exact (laws_heldPointS_l2.eq_2 ..).symm) (fun n => h10a_g2 laws_heldPointS_l2 n)) allN)

/-! loop.example/g01297/laws.eqPointS -/
abbrev h8c_x {α : Type}  : Nat → Ctx α := ctxS false M eqs jt0 [] []
def h8c_b {α : Type}  (_ : Nat) (b_ : List (Int × Int)) (r0 : Bool → Option α) : Option α :=
  bif (!decide (0 = (((List.length b_) : Nat) : Int))) then
    r0 false
  else
    r0 true
theorem h8c_g {α : Type}  (n : Nat) : GenF (α := α) Try.prog Try.f8 S39 (h8c_x n) n (h8c_b) := by intro _ _; kernel_rfl
theorem h8c_good {α : Type} : ∀ n, GoodFn (α := α) Try.prog 8 (byShape S39.sh (callS S39 laws_eqPointS_0N n)) := good_of Try.func8 (by kernel_rfl) (by kernel_rfl) (by kernel_rfl) eqs_ok (fun n => h8c_g n) (by delta h8c_b laws_eqPointS_0N; rfl) allN allN

end Go.Proofs.Ytfoblndfgolncaa
