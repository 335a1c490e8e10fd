/- The program's functions hold to their readings without memory: printed by a program of ours. -/
import Derived.Test.YtbhejffnpemdhaaSeXOrderOfMultiples
namespace Go.Proofs.Ytbhejffnpemdhaa
open Go Go.Ev Go.Sh Go.Proofs

/-! loop.example/g01297/spec.l01In -/
abbrev h10_x {α : Type}  : Nat → Ctx α := ctxS false M eqs jt0 [] []
def h10_b {α : Type}  (_ : Nat) (n_ : Int) (low : Int) (high : Int) (r0 : Bool → Option α) : Option α :=
  bif decide (low ≤ n_) then
    r0 (decide (n_ ≤ high))
  else
    r0 false
theorem h10_g {α : Type}  (n : Nat) : GenF (α := α) Try.prog Try.f10 S0 (h10_x n) n (h10_b) := by intro _ _ _ _; kernel_rfl
theorem h10_good {α : Type} : ∀ n, GoodFn (α := α) Try.prog 10 (byShape S0.sh (callS S0 spec_l01In n)) := good_of Try.func10 (by kernel_rfl) (by kernel_rfl) (by kernel_rfl) eqs_ok (fun n => h10_g n) (by delta h10_b spec_l01In; rfl) allN allN

/-! loop.example/g01297/spec.l01Fits -/
abbrev h15_x {α : Type} (F0 : T0 α) : Nat → Ctx α := ctxS false M eqs jt0 [⟨10, S0, F0⟩] []
def h15_b {α : Type} (F0 : T0 α) (k : Nat) (x : Int) (r0 : Bool → Option α) : Option α :=
  F0 k x (-1000000) 1000000 fun v =>
  r0 v
theorem h15_g {α : Type} (F0 : T0 α) (n : Nat) : GenF (α := α) Try.prog Try.f15 S1 (h15_x F0 n) n (h15_b F0) := by intro _ _; kernel_rfl
theorem h15_good {α : Type} : ∀ n, GoodFn (α := α) Try.prog 15 (byShape S1.sh (callS S1 spec_l01Fits n)) := good_of Try.func15 (by kernel_rfl) (by kernel_rfl) (by kernel_rfl) eqs_ok (fun n => h15_g spec_l01In n) (by delta h15_b spec_l01Fits; rfl) (allC h10_good allN) allN

/-! loop.example/g01297/spec.l10Ratio -/
abbrev h9_x {α : Type} (F0 : T1 α) (F1 : T0 α) : Nat → Ctx α := ctxS false M eqs jt0 [⟨15, S1, F0⟩, ⟨10, S0, F1⟩] []
def h9_b {α : Type} (F0 : T1 α) (F1 : T0 α) (k : Nat) (p_ : Int) (q_ : Int) (low : Int) (r0 : Bool → Option α) : Option α :=
  F0 k p_ fun v =>
  bif v then
    F1 k q_ low 1000000 fun v1 =>
    r0 v1
  else
    r0 false
theorem h9_g {α : Type} (F0 : T1 α) (F1 : T0 α) (n : Nat) : GenF (α := α) Try.prog Try.f9 S0 (h9_x F0 F1 n) n (h9_b F0 F1) := by intro _ _ _ _; kernel_rfl
theorem h9_good {α : Type} : ∀ n, GoodFn (α := α) Try.prog 9 (byShape S0.sh (callS S0 spec_l10Ratio n)) := good_of Try.func9 (by kernel_rfl) (by kernel_rfl) (by kernel_rfl) eqs_ok (fun n => h9_g spec_l01Fits spec_l01In n) (by delta h9_b spec_l10Ratio; rfl) (allC h15_good (allC h10_good allN)) allN

/-! loop.example/g01297/spec.l01Rest -/
abbrev h16_x {α : Type}  : Nat → Ctx α := ctxS false M eqs jt0 [] []
def h16_b {α : Type}  (_ : Nat) (n_ : Int) (x : Int) (r0 : Int → Option α) : Option α :=
  bif decide (n_ = 0) then
    none
  else
  bif decide (n_ = 0) then
    none
  else
    r0 (Int.tmod (w64 ((Int.tmod x n_) + n_)) n_)
theorem h16_g {α : Type}  (n : Nat) : GenF (α := α) Try.prog Try.f16 S2 (h16_x n) n (h16_b) := by intro _ _ _; kernel_rfl
theorem h16_good {α : Type} : ∀ n, GoodFn (α := α) Try.prog 16 (byShape S2.sh (callS S2 spec_l01Rest n)) := good_of Try.func16 (by kernel_rfl) (by kernel_rfl) (by kernel_rfl) eqs_ok (fun n => h16_g n) (by delta h16_b spec_l01Rest; rfl) allN allN

/-! loop.example/g01297/spec.l01Own -/
abbrev h17_x {α : Type}  : Nat → Ctx α := ctxS false M eqs jt0 [] []
def h17_b {α : Type}  (_ : Nat) (list : List Int) (r0 : List Int → Option α) : Option α :=
  bif decide ((0 + (List.length list)) ≤ big) then
    r0 ([] ++ list)
  else
    none
theorem h17_g {α : Type}  (n : Nat) : GenF (α := α) Try.prog Try.f17 S3 (h17_x n) n (h17_b) := by intro _ _; kernel_rfl
theorem h17_good {α : Type} : ∀ n, GoodFn (α := α) Try.prog 17 (byShape S3.sh (callS S3 spec_l01Own n)) := good_of Try.func17 (by kernel_rfl) (by kernel_rfl) (by kernel_rfl) eqs_ok (fun n => h17_g n) (by delta h17_b spec_l01Own; rfl) allN allN

/-! loop.example/g01297/spec.l10Order -/
def h11_t6 : Tpl := ⟨(.int .i64 :: (.int .i64 :: (.int .i64 :: (anyN 4 (.sl 768 :: (.int .i64 :: (.int .i64 :: (.int .i64 :: (anyN 44 []))))))))), [(768, .rows 2 2 (.int .i64))], [], false⟩
def h11_p6 : PcS := loopS [.int, .int, .int, .int, .int, .int, .rows (.int .i64)] [2]
def h11_t3 : Tpl := ⟨(.int .i64 :: (.int .i64 :: (.int .i64 :: (anyN 4 (.sl 768 :: (.int .i64 :: (anyN 46 []))))))), [(768, .rows 2 2 (.int .i64))], [(7, 768, 2, (.int .i64))], false⟩
def h11_p3 : PcS := loopS [.int, .int, .int, .int, .rows (.int .i64)] [0]
abbrev h11_x {α : Type} (F0 : T2 α) (F1 : T3 α) (G6 : T4 α) (G3 : T5 α) : Nat → Ctx α := ctxS false M eqs jt0 [⟨16, S2, F0⟩, ⟨17, S3, F1⟩] [lpT 6 h11_t6 h11_p6 R2 G6, lpT 3 h11_t3 h11_p3 R2 G3]
def h11_b6 {α : Type} (F0 : T2 α) (G6 : T4 α) (k : Nat) (p_2 : Int) (q_2 : Int) (n_2 : Int) (k_1 : Int) (own : Int) (at_ : Int) (out1 : List Int) (b2 : Int → Int → Int → Int → Int → Int → List Int → Option α) (r0 : List Int → Option α) : Option α :=
  bif decide (0 < at_) then
    bif (decide (0 ≤ (w64 (at_ - 1))) && decide ((w64 (at_ - 1)) < (((List.length out1) : Nat) : Int))) then
      (out1[(w64 (at_ - 1)).toNat]?).bind fun e_ =>
      F0 k q_2 (w64 (e_ * p_2)) fun v1 =>
      bif decide (own < v1) then
        G6 k p_2 q_2 n_2 k_1 own (w64 (at_ - 1)) out1 b2 r0
      else
        b2 p_2 q_2 n_2 k_1 own at_ out1
    else
      none
  else
    b2 p_2 q_2 n_2 k_1 own at_ out1
theorem h11_g6 {α : Type} (F0 : T2 α) (F1 : T3 α) (G6 : T4 α) (G3 : T5 α) (n : Nat) : GenL (α := α) Try.prog Try.f11 S4 (h11_x F0 F1 G6 G3 n) 6 h11_t6 h11_p6 n G6 (h11_b6 F0 G6) := by intro _ _ _ _ _ _ _ _ _; kernel_rfl
def h11_b3 {α : Type} (F0 : T2 α) (F1 : T3 α) (G6 : T4 α) (G3 : T5 α) (k : Nat) (p_1 : Int) (q_1 : Int) (n_1 : Int) (k_ : Int) (out : List Int) (b0 : Int → Int → Int → Int → List Int → Option α) (r0 : List Int → Option α) : Option α :=
  bif decide (k_ < n_1) then
    F0 k q_1 (w64 (k_ * p_1)) fun v =>
    G6 k p_1 q_1 n_1 k_ v (((List.length out) : Nat) : Int) out
      (fun p_3 q_3 n_3 k_2 _ at_1 out2 =>
        bif (decide (0 ≤ at_1) && decide (at_1 ≤ (((List.length out2) : Nat) : Int))) then
          bif decide ((1 + (List.length (List.take ((List.length out2) - at_1.toNat) (List.drop at_1.toNat out2)))) ≤ big) then
            bif (decide (0 ≤ at_1) && decide (at_1 ≤ (((List.length out2) : Nat) : Int))) then
              F1 k (List.take (at_1.toNat - 0) (List.drop 0 out2)) fun v2 =>
              bif decide (((List.length v2) + (List.length ([k_2] ++ (List.take ((List.length out2) - at_1.toNat) (List.drop at_1.toNat out2))))) ≤ big) then
                G3 k p_3 q_3 n_3 (w64 (k_2 + 1)) (v2 ++ ([k_2] ++ (List.take ((List.length out2) - at_1.toNat) (List.drop at_1.toNat out2)))) b0 r0
              else
                none
            else
              none
          else
            none
        else
          none)
      r0
  else
    b0 p_1 q_1 n_1 k_ out
theorem h11_g3 {α : Type} (F0 : T2 α) (F1 : T3 α) (G6 : T4 α) (G3 : T5 α) (n : Nat) : GenL (α := α) Try.prog Try.f11 S4 (h11_x F0 F1 G6 G3 n) 3 h11_t3 h11_p3 n G3 (h11_b3 F0 F1 G6 G3) := by intro _ _ _ _ _ _ _; kernel_rfl
def h11_b {α : Type} (G3 : T5 α) (k : Nat) (p_ : Int) (q_ : Int) (n_ : Int) (r0 : List Int → Option α) : Option α :=
  G3 k p_ q_ n_ 0 []
    (fun _ _ _ _ out3 =>
      r0 out3)
    r0
theorem h11_g {α : Type} (F0 : T2 α) (F1 : T3 α) (G6 : T4 α) (G3 : T5 α) (n : Nat) : GenF (α := α) Try.prog Try.f11 S4 (h11_x F0 F1 G6 G3 n) n (h11_b G3) := by intro _ _ _ _; kernel_rfl
theorem h11_good {α : Type} : ∀ n, GoodFn (α := α) Try.prog 11 (byShape S4.sh (callS S4 spec_l10Order n)) := good_of Try.func11 (by kernel_rfl) (by kernel_rfl) (by kernel_rfl) eqs_ok (fun n => h11_g spec_l01Rest spec_l01Own spec_l10Order_l6 spec_l10Order_l3 n) (by delta h11_b spec_l10Order; rfl) (allC h16_good (allC h17_good allN)) (allC (loop_fine (by kernel_rfl) (fun n => by delta h11_b6; funext _ _ _ _ _ _ _ _ _; exact (spec_l10Order_l6.eq_2 ..).symm) (fun n => h11_g6 spec_l01Rest spec_l01Own spec_l10Order_l6 spec_l10Order_l3 n)) (allC (loop_fine (by kernel_rfl) (fun n => by delta h11_b3; funext _ _ _ _ _ _ _; exact (spec_l10Order_l3.eq_2 ..).symm) (fun n => h11_g3 spec_l01Rest spec_l01Own spec_l10Order_l6 spec_l10Order_l3 n)) allN))

/-! loop.example/g01297/spec.OrderOfMultiples -/
abbrev h4_x {α : Type} (F0 : T0 α) (F1 : T0 α) (F2 : T6 α) : Nat → Ctx α := ctxS false M eqs jt0 [⟨9, S0, F0⟩, ⟨10, S0, F1⟩, ⟨11, S4, F2⟩] []
def h4_b {α : Type} (F0 : T0 α) (F1 : T0 α) (F2 : T6 α) (k : Nat) (p_ : Int) (q_ : Int) (n_ : Int) (r0 : Int → Option α) (r1 : List Int → Int → Option α) : Option α :=
  F0 k p_ q_ 2 fun v =>
  bif (!v) then
    r0 2
  else
    F1 k n_ 1 500 fun v1 =>
    bif (!v1) then
      r0 2
    else
      F2 k p_ q_ n_ fun v2 =>
      r1 v2 0
theorem h4_g {α : Type} (F0 : T0 α) (F1 : T0 α) (F2 : T6 α) (n : Nat) : GenF (α := α) Try.prog Try.f4 S5 (h4_x F0 F1 F2 n) n (h4_b F0 F1 F2) := by intro _ _ _ _; kernel_rfl
theorem h4_good {α : Type} : ∀ n, GoodFn (α := α) Try.prog 4 (byShape S5.sh (callS S5 spec_OrderOfMultiples n)) := good_of Try.func4 (by kernel_rfl) (by kernel_rfl) (by kernel_rfl) eqs_ok (fun n => h4_g spec_l10Ratio spec_l01In spec_l10Order n) (by delta h4_b spec_OrderOfMultiples; rfl) (allC h9_good (allC h10_good (allC h11_good allN))) allN

/-! loop.example/g01297/impl.in -/
abbrev h13_x {α : Type}  : Nat → Ctx α := ctxS false M eqs jt0 [] []
def h13_b {α : Type}  (_ : Nat) (n_ : Int) (low : Int) (high : Int) (r0 : Bool → Option α) : Option α :=
  bif decide (low ≤ n_) then
    r0 (decide (n_ ≤ high))
  else
    r0 false
theorem h13_g {α : Type}  (n : Nat) : GenF (α := α) Try.prog Try.f13 S0 (h13_x n) n (h13_b) := by intro _ _ _ _; kernel_rfl
theorem h13_good {α : Type} : ∀ n, GoodFn (α := α) Try.prog 13 (byShape S0.sh (callS S0 impl_in n)) := good_of Try.func13 (by kernel_rfl) (by kernel_rfl) (by kernel_rfl) eqs_ok (fun n => h13_g n) (by delta h13_b impl_in; rfl) allN allN

/-! loop.example/g01297/impl.isCoord -/
abbrev h23_x {α : Type} (F0 : T0 α) : Nat → Ctx α := ctxS false M eqs jt0 [⟨13, S0, F0⟩] []
def h23_b {α : Type} (F0 : T0 α) (k : Nat) (n_ : Int) (r0 : Bool → Option α) : Option α :=
  F0 k n_ (-1000000) 1000000 fun v =>
  r0 v
theorem h23_g {α : Type} (F0 : T0 α) (n : Nat) : GenF (α := α) Try.prog Try.f23 S1 (h23_x F0 n) n (h23_b F0) := by intro _ _; kernel_rfl
theorem h23_good {α : Type} : ∀ n, GoodFn (α := α) Try.prog 23 (byShape S1.sh (callS S1 impl_isCoord n)) := good_of Try.func23 (by kernel_rfl) (by kernel_rfl) (by kernel_rfl) eqs_ok (fun n => h23_g impl_in n) (by delta h23_b impl_isCoord; rfl) (allC h13_good allN) allN

/-! loop.example/g01297/impl.ratioOk -/
abbrev h18_x {α : Type} (F0 : T1 α) (F1 : T0 α) : Nat → Ctx α := ctxS false M eqs jt0 [⟨23, S1, F0⟩, ⟨13, S0, F1⟩] []
def h18_b {α : Type} (F0 : T1 α) (F1 : T0 α) (k : Nat) (p_ : Int) (q_ : Int) (r0 : Bool → Option α) : Option α :=
  F0 k p_ fun v =>
  bif v then
    F1 k q_ 1 1000000 fun v1 =>
    r0 v1
  else
    r0 false
theorem h18_g {α : Type} (F0 : T1 α) (F1 : T0 α) (n : Nat) : GenF (α := α) Try.prog Try.f18 S6 (h18_x F0 F1 n) n (h18_b F0 F1) := by intro _ _ _; kernel_rfl
theorem h18_good {α : Type} : ∀ n, GoodFn (α := α) Try.prog 18 (byShape S6.sh (callS S6 impl_ratioOk n)) := good_of Try.func18 (by kernel_rfl) (by kernel_rfl) (by kernel_rfl) eqs_ok (fun n => h18_g impl_isCoord impl_in n) (by delta h18_b impl_ratioOk; rfl) (allC h23_good (allC h13_good allN)) allN

/-! loop.example/g01297/impl.placesOk -/
abbrev h12_x {α : Type} (F0 : T7 α) : Nat → Ctx α := ctxS false M eqs jt0 [⟨18, S6, F0⟩] []
def h12_b {α : Type} (F0 : T7 α) (k : Nat) (p_ : Int) (q_ : Int) (r0 : Bool → Option α) : Option α :=
  F0 k p_ q_ fun v =>
  bif v then
    r0 (decide (2 ≤ q_))
  else
    r0 false
theorem h12_g {α : Type} (F0 : T7 α) (n : Nat) : GenF (α := α) Try.prog Try.f12 S6 (h12_x F0 n) n (h12_b F0) := by intro _ _ _; kernel_rfl
theorem h12_good {α : Type} : ∀ n, GoodFn (α := α) Try.prog 12 (byShape S6.sh (callS S6 impl_placesOk n)) := good_of Try.func12 (by kernel_rfl) (by kernel_rfl) (by kernel_rfl) eqs_ok (fun n => h12_g impl_ratioOk n) (by delta h12_b impl_placesOk; rfl) (allC h18_good allN) allN

/-! loop.example/g01297/impl.floor -/
abbrev h26_x {α : Type}  : Nat → Ctx α := ctxS false M eqs jt0 [] []
def h26_b {α : Type}  (_ : Nat) (a : Int) (b_ : Int) (r0 : Int → Option α) : Option α :=
  bif decide (b_ = 0) then
    none
  else
  bif decide (b_ = 0) then
    none
  else
  bif (!decide ((Int.tmod a b_) = 0)) then
    bif (!(decide (a < 0) == decide (b_ < 0))) then
      r0 (w64 ((w64 (Int.tdiv a b_)) - 1))
    else
      r0 (w64 (Int.tdiv a b_))
  else
    r0 (w64 (Int.tdiv a b_))
theorem h26_g {α : Type}  (n : Nat) : GenF (α := α) Try.prog Try.f26 S2 (h26_x n) n (h26_b) := by intro _ _ _; kernel_rfl
theorem h26_good {α : Type} : ∀ n, GoodFn (α := α) Try.prog 26 (byShape S2.sh (callS S2 impl_floor n)) := good_of Try.func26 (by kernel_rfl) (by kernel_rfl) (by kernel_rfl) eqs_ok (fun n => h26_g n) (by delta h26_b impl_floor; rfl) allN allN

/-! loop.example/g01297/impl.mod -/
abbrev h22_x {α : Type} (F0 : T2 α) : Nat → Ctx α := ctxS false M eqs jt0 [⟨26, S2, F0⟩] []
def h22_b {α : Type} (F0 : T2 α) (k : Nat) (a : Int) (b_ : Int) (r0 : Int → Option α) : Option α :=
  F0 k a b_ fun v =>
  r0 (w64 (a - (w64 (b_ * v))))
theorem h22_g {α : Type} (F0 : T2 α) (n : Nat) : GenF (α := α) Try.prog Try.f22 S2 (h22_x F0 n) n (h22_b F0) := by intro _ _ _; kernel_rfl
theorem h22_good {α : Type} : ∀ n, GoodFn (α := α) Try.prog 22 (byShape S2.sh (callS S2 impl_mod n)) := good_of Try.func22 (by kernel_rfl) (by kernel_rfl) (by kernel_rfl) eqs_ok (fun n => h22_g impl_floor n) (by delta h22_b impl_mod; rfl) (allC h26_good allN) allN

/-! cmp.isNaN[int64] -/
abbrev h25_x {α : Type}  : Nat → Ctx α := ctxS false M eqs jt0 [] []
def h25_b {α : Type}  (_ : Nat) (x : Int) (r0 : Bool → Option α) : Option α :=
  r0 (!decide (x = x))
theorem h25_g {α : Type}  (n : Nat) : GenF (α := α) Try.prog Try.f25 S1 (h25_x n) n (h25_b) := by intro _ _; kernel_rfl
theorem h25_good {α : Type} : ∀ n, GoodFn (α := α) Try.prog 25 (byShape S1.sh (callS S1 cmp_isNaN_int64 n)) := good_of Try.func25 (by kernel_rfl) (by kernel_rfl) (by kernel_rfl) eqs_ok (fun n => h25_g n) (by delta h25_b cmp_isNaN_int64; rfl) allN allN

/-! cmp.Compare[int64] -/
abbrev h21_x {α : Type} (F0 : T1 α) : Nat → Ctx α := ctxS false M eqs jt0 [⟨25, S1, F0⟩] []
def h21_b {α : Type} (F0 : T1 α) (k : Nat) (x : Int) (y : Int) (r0 : Int → Option α) : Option α :=
  F0 k x fun v =>
  F0 k y fun v1 =>
  bif v then
    bif v1 then
      r0 0
    else
      r0 (-1)
  else
  bif v1 then
    r0 1
  else
  bif decide (x < y) then
    r0 (-1)
  else
  bif decide (y < x) then
    r0 1
  else
    r0 0
theorem h21_g {α : Type} (F0 : T1 α) (n : Nat) : GenF (α := α) Try.prog Try.f21 S2 (h21_x F0 n) n (h21_b F0) := by intro _ _ _; kernel_rfl
theorem h21_good {α : Type} : ∀ n, GoodFn (α := α) Try.prog 21 (byShape S2.sh (callS S2 cmp_Compare_int64 n)) := good_of Try.func21 (by kernel_rfl) (by kernel_rfl) (by kernel_rfl) eqs_ok (fun n => h21_g cmp_isNaN_int64 n) (by delta h21_b cmp_Compare_int64; rfl) (allC h25_good allN) allN

/-! loop.example/g01297/impl.multiples$1 -/
abbrev h20_x {α : Type} (F0 : T2 α) (F1 : T2 α) : Nat → Ctx α := ctxS false M eqs jt0 [⟨22, S2, F0⟩, ⟨21, S2, F1⟩] []
def h20_b {α : Type} (F0 : T2 α) (F1 : T2 α) (k : Nat) (a : Int) (b_ : Int) (x : Int) (x1 : Int) (r0 : Int → Option α) : Option α :=
  F0 k (w64 (a * x)) x1 fun v =>
  F0 k (w64 (b_ * x)) x1 fun v1 =>
  F1 k v v1 fun v2 =>
  r0 v2
theorem h20_g {α : Type} (F0 : T2 α) (F1 : T2 α) (n : Nat) : GenF (α := α) Try.prog Try.f20 S7 (h20_x F0 F1 n) n (h20_b F0 F1) := by intro _ _ _ _ _; kernel_rfl
theorem h20_good {α : Type} : ∀ n, GoodFn (α := α) Try.prog 20 (byShape S7.sh (callS S7 impl_multiples_1_2P_3P n)) := good_of Try.func20 (by kernel_rfl) (by kernel_rfl) (by kernel_rfl) eqs_ok (fun n => h20_g impl_mod cmp_Compare_int64 n) (by delta h20_b impl_multiples_1_2P_3P; rfl) (allC h22_good (allC h21_good allN)) allN

/-! slices.insertionSortCmpFunc[int64] -/
def h27_t4 : Tpl := ⟨(.sl 0 :: (.int .i64 :: (.int .i64 :: (.fn 20 [.ptr 193 0 0, .ptr 194 0 0] :: (anyN 4 (.int .i64 :: (.int .i64 :: (anyN 43 [])))))))), [(0, .rows 1 2 (.int .i64)), (193, .ints 0 2 .i64 1), (194, .ints 0 2 .i64 1)], [], false⟩
def h27_p4 : PcS := loopS [.int, .int, .int, .int, .rows (.int .i64), .int, .int] [2]
def h27_t1 : Tpl := ⟨(.sl 0 :: (.int .i64 :: (.int .i64 :: (.fn 20 [.ptr 193 0 0, .ptr 194 0 0] :: (anyN 4 (.int .i64 :: (anyN 44 []))))))), [(0, .rows 1 2 (.int .i64)), (193, .ints 0 2 .i64 1), (194, .ints 0 2 .i64 1)], [], false⟩
def h27_p1 : PcS := loopS [.int, .int, .int, .rows (.int .i64), .int, .int] [0]
abbrev h27_x {α : Type} (F0 : T8 α) (G4 : T9 α) (G1 : T10 α) : Nat → Ctx α := ctxS false M eqs jt0 [⟨20, S7, F0⟩] [lpT 4 h27_t4 h27_p4 R4 G4, lpT 1 h27_t1 h27_p1 R4 G1]
def h27_b4 {α : Type} (F0 : T8 α) (G4 : T9 α) (k : Nat) (a2 : Int) (b_4 : Int) (i1 : Int) (j : Int) (data2 : List Int) (b_5 : Int) (b_6 : Int) (b2 : Int → Int → Int → Int → List Int → Int → Int → Option α) (r0 : List Int → Option α) : Option α :=
  bif decide (a2 < j) then
    bif (decide (0 ≤ j) && decide (j < (((List.length data2) : Nat) : Int))) then
      (data2[j.toNat]?).bind fun e_ =>
      bif (decide (0 ≤ (w64 (j - 1))) && decide ((w64 (j - 1)) < (((List.length data2) : Nat) : Int))) then
        (data2[(w64 (j - 1)).toNat]?).bind fun e_1 =>
        F0 k e_ e_1 b_5 b_6 fun v =>
        bif decide (v < 0) then
          bif (decide (0 ≤ (w64 (j - 1))) && decide ((w64 (j - 1)) < (((List.length data2) : Nat) : Int))) then
            (data2[(w64 (j - 1)).toNat]?).bind fun e_2 =>
            bif (decide (0 ≤ j) && decide (j < (((List.length data2) : Nat) : Int))) then
              (data2[j.toNat]?).bind fun e_3 =>
              bif (decide (0 ≤ j) && decide (j < (((List.length data2) : Nat) : Int))) then
                (data2[j.toNat]?).bind fun _ =>
                bif (decide (0 ≤ (w64 (j - 1))) && decide ((w64 (j - 1)) < (((List.length (List.set data2 j.toNat e_2)) : Nat) : Int))) then
                  ((List.set data2 j.toNat e_2)[(w64 (j - 1)).toNat]?).bind fun _ =>
                  G4 k a2 b_4 i1 (w64 (j - 1)) (List.set (List.set data2 j.toNat e_2) ((w64 (j - 1)).toNat) e_3) b_5 b_6 b2 r0
                else
                  none
              else
                none
            else
              none
          else
            none
        else
          b2 a2 b_4 i1 j data2 b_5 b_6
      else
        none
    else
      none
  else
    b2 a2 b_4 i1 j data2 b_5 b_6
theorem h27_g4 {α : Type} (F0 : T8 α) (G4 : T9 α) (G1 : T10 α) (n : Nat) : GenL (α := α) Try.prog Try.f27 S8 (h27_x F0 G4 G1 n) 4 h27_t4 h27_p4 n G4 (h27_b4 F0 G4) := by intro _ _ _ _ _ _ _ _ _ _ _ _ _ _; kernel_rfl
def h27_b1 {α : Type} (G4 : T9 α) (G1 : T10 α) (k : Nat) (a1 : Int) (b_1 : Int) (i : Int) (data1 : List Int) (b_2 : Int) (b_3 : Int) (b0 : Int → Int → Int → List Int → Int → Int → Option α) (r0 : List Int → Option α) : Option α :=
  bif decide (i < b_1) then
    G4 k a1 b_1 i i data1 b_2 b_3
      (fun a3 b_7 i2 _ data3 b_8 b_9 =>
        G1 k a3 b_7 (w64 (i2 + 1)) data3 b_8 b_9 b0 r0)
      r0
  else
    b0 a1 b_1 i data1 b_2 b_3
theorem h27_g1 {α : Type} (F0 : T8 α) (G4 : T9 α) (G1 : T10 α) (n : Nat) : GenL (α := α) Try.prog Try.f27 S8 (h27_x F0 G4 G1 n) 1 h27_t1 h27_p1 n G1 (h27_b1 G4 G1) := by intro _ _ _ _ _ _ _ _ _ _ _ _ _; kernel_rfl
def h27_b {α : Type} (G1 : T10 α) (k : Nat) (data : List Int) (a : Int) (b_ : Int) (cmp : Int) (cmp1 : Int) (r0 : List Int → Option α) : Option α :=
  G1 k a b_ (w64 (a + 1)) data cmp cmp1
    (fun _ _ _ data4 _ _ =>
      r0 data4)
    r0
theorem h27_g {α : Type} (F0 : T8 α) (G4 : T9 α) (G1 : T10 α) (n : Nat) : GenF (α := α) Try.prog Try.f27 S8 (h27_x F0 G4 G1 n) n (h27_b G1) := by intro _ _ _ _ _ _; kernel_rfl
theorem h27_good {α : Type} : ∀ n, GoodFn (α := α) Try.prog 27 (byShape S8.sh (callS S8 slices_insertionSortCmpFunc_int64_3F_impl_multiples_1PP n)) := good_of Try.func27 (by kernel_rfl) (by kernel_rfl) (by kernel_rfl) eqs_ok (fun n => h27_g impl_multiples_1_2P_3P slices_insertionSortCmpFunc_int64_3F_impl_multiples_1PP_l4 slices_insertionSortCmpFunc_int64_3F_impl_multiples_1PP_l1 n) (by delta h27_b slices_insertionSortCmpFunc_int64_3F_impl_multiples_1PP; rfl) (allC h20_good allN) (allC (loop_fine (by kernel_rfl) (fun n => by delta h27_b4; funext _ _ _ _ _ _ _ _ _; exact (slices_insertionSortCmpFunc_int64_3F_impl_multiples_1PP_l4.eq_2 ..).symm) (fun n => h27_g4 impl_multiples_1_2P_3P slices_insertionSortCmpFunc_int64_3F_impl_multiples_1PP_l4 slices_insertionSortCmpFunc_int64_3F_impl_multiples_1PP_l1 n)) (allC (loop_fine (by kernel_rfl) (fun n => by delta h27_b1; funext _ _ _ _ _ _ _ _; exact (slices_insertionSortCmpFunc_int64_3F_impl_multiples_1PP_l1.eq_2 ..).symm) (fun n => h27_g1 impl_multiples_1_2P_3P slices_insertionSortCmpFunc_int64_3F_impl_multiples_1PP_l4 slices_insertionSortCmpFunc_int64_3F_impl_multiples_1PP_l1 n)) allN))

/-! slices.swapRangeCmpFunc[int64] -/
def h30_t1 : Tpl := ⟨(.sl 0 :: (.int .i64 :: (.int .i64 :: (.int .i64 :: (anyN 6 (.int .i64 :: (anyN 27 []))))))), [(0, .rows 1 2 (.int .i64))], [], false⟩
def h30_p1 : PcS := loopS [.int, .int, .int, .int, .rows (.int .i64)] [0]
abbrev h30_x {α : Type} (G1 : T5 α) : Nat → Ctx α := ctxS false M eqs jt0 [] [lpT 1 h30_t1 h30_p1 R4 G1]
def h30_b1 {α : Type} (G1 : T5 α) (k : Nat) (a1 : Int) (b_1 : Int) (n_1 : Int) (i : Int) (data1 : List Int) (b0 : Int → Int → Int → Int → List Int → Option α) (r0 : List Int → Option α) : Option α :=
  bif decide (i < n_1) then
    bif (decide (0 ≤ (w64 (b_1 + i))) && decide ((w64 (b_1 + i)) < (((List.length data1) : Nat) : Int))) then
      (data1[(w64 (b_1 + i)).toNat]?).bind fun e_ =>
      bif (decide (0 ≤ (w64 (a1 + i))) && decide ((w64 (a1 + i)) < (((List.length data1) : Nat) : Int))) then
        (data1[(w64 (a1 + i)).toNat]?).bind fun e_1 =>
        bif (decide (0 ≤ (w64 (a1 + i))) && decide ((w64 (a1 + i)) < (((List.length data1) : Nat) : Int))) then
          (data1[(w64 (a1 + i)).toNat]?).bind fun _ =>
          bif (decide (0 ≤ (w64 (b_1 + i))) && decide ((w64 (b_1 + i)) < (((List.length (List.set data1 ((w64 (a1 + i)).toNat) e_)) : Nat) : Int))) then
            ((List.set data1 ((w64 (a1 + i)).toNat) e_)[(w64 (b_1 + i)).toNat]?).bind fun _ =>
            G1 k a1 b_1 n_1 (w64 (i + 1)) (List.set (List.set data1 ((w64 (a1 + i)).toNat) e_) ((w64 (b_1 + i)).toNat) e_1) b0 r0
          else
            none
        else
          none
      else
        none
    else
      none
  else
    b0 a1 b_1 n_1 i data1
theorem h30_g1 {α : Type} (G1 : T5 α) (n : Nat) : GenL (α := α) Try.prog Try.f30 S9 (h30_x G1 n) 1 h30_t1 h30_p1 n G1 (h30_b1 G1) := by intro _ _ _ _ _ _ _ _ _ _ _ _ _; kernel_rfl
def h30_b {α : Type} (G1 : T5 α) (k : Nat) (data : List Int) (a : Int) (b_ : Int) (n_ : Int) (_ : Int) (_ : Int) (r0 : List Int → Option α) : Option α :=
  G1 k a b_ n_ 0 data
    (fun _ _ _ _ data2 =>
      r0 data2)
    r0
theorem h30_g {α : Type} (G1 : T5 α) (n : Nat) : GenF (α := α) Try.prog Try.f30 S9 (h30_x G1 n) n (h30_b G1) := by intro _ _ _ _ _ _ _; kernel_rfl
theorem h30_good {α : Type} : ∀ n, GoodFn (α := α) Try.prog 30 (byShape S9.sh (callS S9 slices_swapRangeCmpFunc_int64_4F_impl_multiples_1PP n)) := good_of Try.func30 (by kernel_rfl) (by kernel_rfl) (by kernel_rfl) eqs_ok (fun n => h30_g slices_swapRangeCmpFunc_int64_4F_impl_multiples_1PP_l1 n) (by delta h30_b slices_swapRangeCmpFunc_int64_4F_impl_multiples_1PP; rfl) allN (allC (loop_fine (by kernel_rfl) (fun n => by delta h30_b1; funext _ _ _ _ _ _ _; exact (slices_swapRangeCmpFunc_int64_4F_impl_multiples_1PP_l1.eq_2 ..).symm) (fun n => h30_g1 slices_swapRangeCmpFunc_int64_4F_impl_multiples_1PP_l1 n)) allN)

/-! slices.rotateCmpFunc[int64] -/
def h29_t2 : Tpl := ⟨(.sl 0 :: (.any :: (.int .i64 :: (.any :: (.fn 20 [.ptr 257 0 0, .ptr 258 0 0] :: (anyN 5 (.int .i64 :: (.int .i64 :: (anyN 46 []))))))))), [(0, .rows 1 2 (.int .i64)), (257, .ints 0 2 .i64 1), (258, .ints 0 2 .i64 1)], [], false⟩
def h29_p2 : PcS := loopS [.int, .int, .int, .rows (.int .i64), .int, .int] [0]
abbrev h29_x {α : Type} (F0 : T11 α) (G2 : T10 α) : Nat → Ctx α := ctxS false M eqs jt0 [⟨30, S9, F0⟩] [lpT 2 h29_t2 h29_p2 R4 G2]
def h29_b2 {α : Type} (F0 : T11 α) (G2 : T10 α) (k : Nat) (m1 : Int) (i : Int) (j : Int) (data1 : List Int) (b_1 : Int) (b_2 : Int) (b0 : Int → Int → Int → List Int → Int → Int → Option α) (r0 : List Int → Option α) : Option α :=
  bif (!decide (i = j)) then
    bif decide (j < i) then
      F0 k data1 (w64 (m1 - i)) m1 j b_1 b_2 fun v =>
      G2 k m1 (w64 (i - j)) j v b_1 b_2 b0 r0
    else
      F0 k data1 (w64 (m1 - i)) (w64 ((w64 (m1 + j)) - i)) i b_1 b_2 fun v1 =>
      G2 k m1 i (w64 (j - i)) v1 b_1 b_2 b0 r0
  else
    b0 m1 i j data1 b_1 b_2
theorem h29_g2 {α : Type} (F0 : T11 α) (G2 : T10 α) (n : Nat) : GenL (α := α) Try.prog Try.f29 S9 (h29_x F0 G2 n) 2 h29_t2 h29_p2 n G2 (h29_b2 F0 G2) := by intro _ _ _ _ _ _ _ _ _ _ _ _ _ _; kernel_rfl
def h29_b {α : Type} (F0 : T11 α) (G2 : T10 α) (k : Nat) (data : List Int) (a : Int) (m : Int) (b_ : Int) (cmp : Int) (cmp1 : Int) (r0 : List Int → Option α) : Option α :=
  G2 k m (w64 (m - a)) (w64 (b_ - m)) data cmp cmp1
    (fun m2 i1 _ data2 b_3 b_4 =>
      F0 k data2 (w64 (m2 - i1)) m2 i1 b_3 b_4 fun v2 =>
      r0 v2)
    r0
theorem h29_g {α : Type} (F0 : T11 α) (G2 : T10 α) (n : Nat) : GenF (α := α) Try.prog Try.f29 S9 (h29_x F0 G2 n) n (h29_b F0 G2) := by intro _ _ _ _ _ _ _; kernel_rfl
theorem h29_good {α : Type} : ∀ n, GoodFn (α := α) Try.prog 29 (byShape S9.sh (callS S9 slices_rotateCmpFunc_int64_4F_impl_multiples_1PP n)) := good_of Try.func29 (by kernel_rfl) (by kernel_rfl) (by kernel_rfl) eqs_ok (fun n => h29_g slices_swapRangeCmpFunc_int64_4F_impl_multiples_1PP slices_rotateCmpFunc_int64_4F_impl_multiples_1PP_l2 n) (by delta h29_b slices_rotateCmpFunc_int64_4F_impl_multiples_1PP; rfl) (allC h30_good allN) (allC (loop_fine (by kernel_rfl) (fun n => by delta h29_b2; funext _ _ _ _ _ _ _ _; exact (slices_rotateCmpFunc_int64_4F_impl_multiples_1PP_l2.eq_2 ..).symm) (fun n => h29_g2 slices_swapRangeCmpFunc_int64_4F_impl_multiples_1PP slices_rotateCmpFunc_int64_4F_impl_multiples_1PP_l2 n)) allN)

/-! slices.symMergeCmpFunc[int64] -/
def h28_t3 : Tpl := ⟨(.sl 0 :: (.int .i64 :: (.any :: (.any :: (.fn 20 [.ptr 257 0 0, .ptr 258 0 0] :: (anyN 5 (.int .i64 :: (.int .i64 :: (anyN 208 []))))))))), [(0, .rows 1 2 (.int .i64)), (257, .ints 0 2 .i64 1), (258, .ints 0 2 .i64 1)], [], false⟩
def h28_p3 : PcS := loopS [.int, .int, .int, .rows (.int .i64), .int, .int] [0]
def h28_t9 : Tpl := ⟨(.sl 0 :: (anyN 9 (.int .i64 :: (.any :: (.any :: (.int .i64 :: (anyN 206 []))))))), [(0, .rows 1 2 (.int .i64))], [], false⟩
def h28_p9 : PcS := loopS [.int, .int, .rows (.int .i64)] [2]
def h28_t15 : Tpl := ⟨(.sl 0 :: (.any :: (.int .i64 :: (.any :: (.fn 20 [.ptr 257 0 0, .ptr 258 0 0] :: (anyN 9 (.int .i64 :: (.int .i64 :: (anyN 204 []))))))))), [(0, .rows 1 2 (.int .i64)), (257, .ints 0 2 .i64 1), (258, .ints 0 2 .i64 1)], [], false⟩
def h28_p15 : PcS := loopS [.int, .int, .int, .rows (.int .i64), .int, .int] [4]
def h28_t21 : Tpl := ⟨(.sl 0 :: (anyN 13 (.int .i64 :: (.any :: (.any :: (.int .i64 :: (anyN 202 []))))))), [(0, .rows 1 2 (.int .i64))], [], false⟩
def h28_p21 : PcS := loopS [.int, .int, .rows (.int .i64)] [6]
def h28_t33 : Tpl := ⟨(.sl 0 :: (.int .i64 :: (.int .i64 :: (.int .i64 :: (.fn 20 [.ptr 257 0 0, .ptr 258 0 0] :: (anyN 13 (.int .i64 :: (.int .i64 :: (.int .i64 :: (.int .i64 :: (.int .i64 :: (anyN 197 [])))))))))))), [(0, .rows 1 2 (.int .i64)), (257, .ints 0 2 .i64 1), (258, .ints 0 2 .i64 1)], [], false⟩
def h28_p33 : PcS := loopS [.int, .int, .int, .int, .int, .int, .int, .int, .rows (.int .i64), .int, .int] [8]
abbrev h28_x {α : Type} (F0 : T11 α) (F1 : T8 α) (F2 : T11 α) (G3 : T10 α) (G9 : T12 α) (G15 : T10 α) (G21 : T12 α) (G33 : T13 α) : Nat → Ctx α := ctxS false M eqs jt0 [⟨28, S9, F0⟩, ⟨20, S7, F1⟩, ⟨29, S9, F2⟩] [lpT 3 h28_t3 h28_p3 R4 G3, lpT 9 h28_t9 h28_p9 R4 G9, lpT 15 h28_t15 h28_p15 R4 G15, lpT 21 h28_t21 h28_p21 R4 G21, lpT 33 h28_t33 h28_p33 R4 G33]
def h28_b3 {α : Type} (F1 : T8 α) (G3 : T10 α) (k : Nat) (a1 : Int) (i : Int) (j : Int) (data1 : List Int) (b_1 : Int) (b_2 : Int) (b0 : Int → Int → Int → List Int → Int → Int → Option α) (r0 : List Int → Option α) : Option α :=
  bif decide (i < j) then
    bif (decide (0 ≤ (w64 (Int.fdiv (IntKind.wrap .u64 (w64 (i + j))) (2 ^ 1)))) && decide ((w64 (Int.fdiv (IntKind.wrap .u64 (w64 (i + j))) (2 ^ 1))) < (((List.length data1) : Nat) : Int))) then
      (data1[(w64 (Int.fdiv (IntKind.wrap .u64 (w64 (i + j))) (2 ^ 1))).toNat]?).bind fun e_ =>
      bif (decide (0 ≤ a1) && decide (a1 < (((List.length data1) : Nat) : Int))) then
        (data1[a1.toNat]?).bind fun e_1 =>
        F1 k e_ e_1 b_1 b_2 fun v =>
        bif decide (v < 0) then
          G3 k a1 (w64 ((w64 (Int.fdiv (IntKind.wrap .u64 (w64 (i + j))) (2 ^ 1))) + 1)) j data1 b_1 b_2 b0 r0
        else
          G3 k a1 i (w64 (Int.fdiv (IntKind.wrap .u64 (w64 (i + j))) (2 ^ 1))) data1 b_1 b_2 b0 r0
      else
        none
    else
      none
  else
    b0 a1 i j data1 b_1 b_2
theorem h28_g3 {α : Type} (F0 : T11 α) (F1 : T8 α) (F2 : T11 α) (G3 : T10 α) (G9 : T12 α) (G15 : T10 α) (G21 : T12 α) (G33 : T13 α) (n : Nat) : GenL (α := α) Try.prog Try.f28 S9 (h28_x F0 F1 F2 G3 G9 G15 G21 G33 n) 3 h28_t3 h28_p3 n G3 (h28_b3 F1 G3) := by intro _ _ _ _ _ _ _ _ _ _ _ _ _ _; kernel_rfl
def h28_b9 {α : Type} (G9 : T12 α) (k : Nat) (i2 : Int) (k_ : Int) (data3 : List Int) (b2 : Int → Int → List Int → Option α) (r0 : List Int → Option α) : Option α :=
  bif decide (k_ < (w64 (i2 - 1))) then
    bif (decide (0 ≤ (w64 (k_ + 1))) && decide ((w64 (k_ + 1)) < (((List.length data3) : Nat) : Int))) then
      (data3[(w64 (k_ + 1)).toNat]?).bind fun e_2 =>
      bif (decide (0 ≤ k_) && decide (k_ < (((List.length data3) : Nat) : Int))) then
        (data3[k_.toNat]?).bind fun e_3 =>
        bif (decide (0 ≤ k_) && decide (k_ < (((List.length data3) : Nat) : Int))) then
          (data3[k_.toNat]?).bind fun _ =>
          bif (decide (0 ≤ (w64 (k_ + 1))) && decide ((w64 (k_ + 1)) < (((List.length (List.set data3 k_.toNat e_2)) : Nat) : Int))) then
            ((List.set data3 k_.toNat e_2)[(w64 (k_ + 1)).toNat]?).bind fun _ =>
            G9 k i2 (w64 (k_ + 1)) (List.set (List.set data3 k_.toNat e_2) ((w64 (k_ + 1)).toNat) e_3) b2 r0
          else
            none
        else
          none
      else
        none
    else
      none
  else
    b2 i2 k_ data3
theorem h28_g9 {α : Type} (F0 : T11 α) (F1 : T8 α) (F2 : T11 α) (G3 : T10 α) (G9 : T12 α) (G15 : T10 α) (G21 : T12 α) (G33 : T13 α) (n : Nat) : GenL (α := α) Try.prog Try.f28 S9 (h28_x F0 F1 F2 G3 G9 G15 G21 G33 n) 9 h28_t9 h28_p9 n G9 (h28_b9 G9) := by intro _ _ _ _ _ _ _ _ _ _ _; kernel_rfl
def h28_b15 {α : Type} (F1 : T8 α) (G15 : T10 α) (k : Nat) (m1 : Int) (i4 : Int) (j2 : Int) (data5 : List Int) (b_5 : Int) (b_6 : Int) (b4 : Int → Int → Int → List Int → Int → Int → Option α) (r0 : List Int → Option α) : Option α :=
  bif decide (i4 < j2) then
    bif (decide (0 ≤ m1) && decide (m1 < (((List.length data5) : Nat) : Int))) then
      (data5[m1.toNat]?).bind fun e_4 =>
      bif (decide (0 ≤ (w64 (Int.fdiv (IntKind.wrap .u64 (w64 (i4 + j2))) (2 ^ 1)))) && decide ((w64 (Int.fdiv (IntKind.wrap .u64 (w64 (i4 + j2))) (2 ^ 1))) < (((List.length data5) : Nat) : Int))) then
        (data5[(w64 (Int.fdiv (IntKind.wrap .u64 (w64 (i4 + j2))) (2 ^ 1))).toNat]?).bind fun e_5 =>
        F1 k e_4 e_5 b_5 b_6 fun v1 =>
        bif (!decide (v1 < 0)) then
          G15 k m1 (w64 ((w64 (Int.fdiv (IntKind.wrap .u64 (w64 (i4 + j2))) (2 ^ 1))) + 1)) j2 data5 b_5 b_6 b4 r0
        else
          G15 k m1 i4 (w64 (Int.fdiv (IntKind.wrap .u64 (w64 (i4 + j2))) (2 ^ 1))) data5 b_5 b_6 b4 r0
      else
        none
    else
      none
  else
    b4 m1 i4 j2 data5 b_5 b_6
theorem h28_g15 {α : Type} (F0 : T11 α) (F1 : T8 α) (F2 : T11 α) (G3 : T10 α) (G9 : T12 α) (G15 : T10 α) (G21 : T12 α) (G33 : T13 α) (n : Nat) : GenL (α := α) Try.prog Try.f28 S9 (h28_x F0 F1 F2 G3 G9 G15 G21 G33 n) 15 h28_t15 h28_p15 n G15 (h28_b15 F1 G15) := by intro _ _ _ _ _ _ _ _ _ _ _ _ _ _; kernel_rfl
def h28_b21 {α : Type} (G21 : T12 α) (k : Nat) (i6 : Int) (k_2 : Int) (data7 : List Int) (b6 : Int → Int → List Int → Option α) (r0 : List Int → Option α) : Option α :=
  bif decide (i6 < k_2) then
    bif (decide (0 ≤ (w64 (k_2 - 1))) && decide ((w64 (k_2 - 1)) < (((List.length data7) : Nat) : Int))) then
      (data7[(w64 (k_2 - 1)).toNat]?).bind fun e_6 =>
      bif (decide (0 ≤ k_2) && decide (k_2 < (((List.length data7) : Nat) : Int))) then
        (data7[k_2.toNat]?).bind fun e_7 =>
        bif (decide (0 ≤ k_2) && decide (k_2 < (((List.length data7) : Nat) : Int))) then
          (data7[k_2.toNat]?).bind fun _ =>
          bif (decide (0 ≤ (w64 (k_2 - 1))) && decide ((w64 (k_2 - 1)) < (((List.length (List.set data7 k_2.toNat e_6)) : Nat) : Int))) then
            ((List.set data7 k_2.toNat e_6)[(w64 (k_2 - 1)).toNat]?).bind fun _ =>
            G21 k i6 (w64 (k_2 - 1)) (List.set (List.set data7 k_2.toNat e_6) ((w64 (k_2 - 1)).toNat) e_7) b6 r0
          else
            none
        else
          none
      else
        none
    else
      none
  else
    b6 i6 k_2 data7
theorem h28_g21 {α : Type} (F0 : T11 α) (F1 : T8 α) (F2 : T11 α) (G3 : T10 α) (G9 : T12 α) (G15 : T10 α) (G21 : T12 α) (G33 : T13 α) (n : Nat) : GenL (α := α) Try.prog Try.f28 S9 (h28_x F0 F1 F2 G3 G9 G15 G21 G33 n) 21 h28_t21 h28_p21 n G21 (h28_b21 G21) := by intro _ _ _ _ _ _ _ _ _ _ _; kernel_rfl
def h28_b33 {α : Type} (F1 : T8 α) (G33 : T13 α) (k : Nat) (a3 : Int) (m3 : Int) (b_9 : Int) (mid : Int) (n_ : Int) (start : Int) (r_ : Int) (p_ : Int) (data9 : List Int) (b_10 : Int) (b_11 : Int) (b8 : Int → Int → Int → Int → Int → Int → Int → Int → List Int → Int → Int → Option α) (r0 : List Int → Option α) : Option α :=
  bif decide (start < r_) then
    bif (decide (0 ≤ (w64 (p_ - (w64 (Int.fdiv (IntKind.wrap .u64 (w64 (start + r_))) (2 ^ 1)))))) && decide ((w64 (p_ - (w64 (Int.fdiv (IntKind.wrap .u64 (w64 (start + r_))) (2 ^ 1))))) < (((List.length data9) : Nat) : Int))) then
      (data9[(w64 (p_ - (w64 (Int.fdiv (IntKind.wrap .u64 (w64 (start + r_))) (2 ^ 1))))).toNat]?).bind fun e_8 =>
      bif (decide (0 ≤ (w64 (Int.fdiv (IntKind.wrap .u64 (w64 (start + r_))) (2 ^ 1)))) && decide ((w64 (Int.fdiv (IntKind.wrap .u64 (w64 (start + r_))) (2 ^ 1))) < (((List.length data9) : Nat) : Int))) then
        (data9[(w64 (Int.fdiv (IntKind.wrap .u64 (w64 (start + r_))) (2 ^ 1))).toNat]?).bind fun e_9 =>
        F1 k e_8 e_9 b_10 b_11 fun v2 =>
        bif (!decide (v2 < 0)) then
          G33 k a3 m3 b_9 mid n_ (w64 ((w64 (Int.fdiv (IntKind.wrap .u64 (w64 (start + r_))) (2 ^ 1))) + 1)) r_ p_ data9 b_10 b_11 b8 r0
        else
          G33 k a3 m3 b_9 mid n_ start (w64 (Int.fdiv (IntKind.wrap .u64 (w64 (start + r_))) (2 ^ 1))) p_ data9 b_10 b_11 b8 r0
      else
        none
    else
      none
  else
    b8 a3 m3 b_9 mid n_ start r_ p_ data9 b_10 b_11
theorem h28_g33 {α : Type} (F0 : T11 α) (F1 : T8 α) (F2 : T11 α) (G3 : T10 α) (G9 : T12 α) (G15 : T10 α) (G21 : T12 α) (G33 : T13 α) (n : Nat) : GenL (α := α) Try.prog Try.f28 S9 (h28_x F0 F1 F2 G3 G9 G15 G21 G33 n) 33 h28_t33 h28_p33 n G33 (h28_b33 F1 G33) := by intro _ _ _ _ _ _ _ _ _ _ _ _ _ _ _ _ _ _ _; kernel_rfl
def h28_b {α : Type} (F0 : T11 α) (F2 : T11 α) (G3 : T10 α) (G9 : T12 α) (G15 : T10 α) (G21 : T12 α) (G33 : T13 α) (k : Nat) (data : List Int) (a : Int) (m : Int) (b_ : Int) (cmp : Int) (cmp1 : Int) (r0 : List Int → Option α) : Option α :=
  bif decide ((w64 (m - a)) = 1) then
    G3 k a m b_ data cmp cmp1
      (fun a2 i1 _ data2 _ _ =>
        G9 k i1 a2 data2
          (fun _ _ data4 =>
            r0 data4)
          r0)
      r0
  else
  bif decide ((w64 (b_ - m)) = 1) then
    G15 k m a m data cmp cmp1
      (fun m2 i5 _ data6 _ _ =>
        G21 k i5 m2 data6
          (fun _ _ data8 =>
            r0 data8)
          r0)
      r0
  else
  bif decide ((w64 (Int.fdiv (IntKind.wrap .u64 (w64 (a + b_))) (2 ^ 1))) < m) then
    G33 k a m b_ (w64 (Int.fdiv (IntKind.wrap .u64 (w64 (a + b_))) (2 ^ 1))) (w64 ((w64 (Int.fdiv (IntKind.wrap .u64 (w64 (a + b_))) (2 ^ 1))) + m)) (w64 ((w64 ((w64 (Int.fdiv (IntKind.wrap .u64 (w64 (a + b_))) (2 ^ 1))) + m)) - b_)) (w64 (Int.fdiv (IntKind.wrap .u64 (w64 (a + b_))) (2 ^ 1))) (w64 ((w64 ((w64 (Int.fdiv (IntKind.wrap .u64 (w64 (a + b_))) (2 ^ 1))) + m)) - 1)) data cmp cmp1
      (fun a4 m4 b_12 mid1 n_1 start1 _ _ data10 b_13 b_14 =>
        bif decide (start1 < m4) then
          bif decide (m4 < (w64 (n_1 - start1))) then
            F2 k data10 start1 m4 (w64 (n_1 - start1)) b_13 b_14 fun v3 =>
            bif decide (a4 < start1) then
              bif decide (start1 < mid1) then
                F0 k v3 a4 start1 mid1 b_13 b_14 fun v4 =>
                bif decide (mid1 < (w64 (n_1 - start1))) then
                  bif decide ((w64 (n_1 - start1)) < b_12) then
                    F0 k v4 mid1 (w64 (n_1 - start1)) b_12 b_13 b_14 fun v5 =>
                    r0 v5
                  else
                    r0 v4
                else
                  r0 v4
              else
              bif decide (mid1 < (w64 (n_1 - start1))) then
                bif decide ((w64 (n_1 - start1)) < b_12) then
                  F0 k v3 mid1 (w64 (n_1 - start1)) b_12 b_13 b_14 fun v6 =>
                  r0 v6
                else
                  r0 v3
              else
                r0 v3
            else
            bif decide (mid1 < (w64 (n_1 - start1))) then
              bif decide ((w64 (n_1 - start1)) < b_12) then
                F0 k v3 mid1 (w64 (n_1 - start1)) b_12 b_13 b_14 fun v7 =>
                r0 v7
              else
                r0 v3
            else
              r0 v3
          else
          bif decide (a4 < start1) then
            bif decide (start1 < mid1) then
              F0 k data10 a4 start1 mid1 b_13 b_14 fun v8 =>
              bif decide (mid1 < (w64 (n_1 - start1))) then
                bif decide ((w64 (n_1 - start1)) < b_12) then
                  F0 k v8 mid1 (w64 (n_1 - start1)) b_12 b_13 b_14 fun v9 =>
                  r0 v9
                else
                  r0 v8
              else
                r0 v8
            else
            bif decide (mid1 < (w64 (n_1 - start1))) then
              bif decide ((w64 (n_1 - start1)) < b_12) then
                F0 k data10 mid1 (w64 (n_1 - start1)) b_12 b_13 b_14 fun v10 =>
                r0 v10
              else
                r0 data10
            else
              r0 data10
          else
          bif decide (mid1 < (w64 (n_1 - start1))) then
            bif decide ((w64 (n_1 - start1)) < b_12) then
              F0 k data10 mid1 (w64 (n_1 - start1)) b_12 b_13 b_14 fun v11 =>
              r0 v11
            else
              r0 data10
          else
            r0 data10
        else
        bif decide (a4 < start1) then
          bif decide (start1 < mid1) then
            F0 k data10 a4 start1 mid1 b_13 b_14 fun v12 =>
            bif decide (mid1 < (w64 (n_1 - start1))) then
              bif decide ((w64 (n_1 - start1)) < b_12) then
                F0 k v12 mid1 (w64 (n_1 - start1)) b_12 b_13 b_14 fun v13 =>
                r0 v13
              else
                r0 v12
            else
              r0 v12
          else
          bif decide (mid1 < (w64 (n_1 - start1))) then
            bif decide ((w64 (n_1 - start1)) < b_12) then
              F0 k data10 mid1 (w64 (n_1 - start1)) b_12 b_13 b_14 fun v14 =>
              r0 v14
            else
              r0 data10
          else
            r0 data10
        else
        bif decide (mid1 < (w64 (n_1 - start1))) then
          bif decide ((w64 (n_1 - start1)) < b_12) then
            F0 k data10 mid1 (w64 (n_1 - start1)) b_12 b_13 b_14 fun v15 =>
            r0 v15
          else
            r0 data10
        else
          r0 data10)
      r0
  else
    G33 k a m b_ (w64 (Int.fdiv (IntKind.wrap .u64 (w64 (a + b_))) (2 ^ 1))) (w64 ((w64 (Int.fdiv (IntKind.wrap .u64 (w64 (a + b_))) (2 ^ 1))) + m)) a m (w64 ((w64 ((w64 (Int.fdiv (IntKind.wrap .u64 (w64 (a + b_))) (2 ^ 1))) + m)) - 1)) data cmp cmp1
      (fun a5 m5 b_15 mid2 n_2 start2 _ _ data11 b_16 b_17 =>
        bif decide (start2 < m5) then
          bif decide (m5 < (w64 (n_2 - start2))) then
            F2 k data11 start2 m5 (w64 (n_2 - start2)) b_16 b_17 fun v16 =>
            bif decide (a5 < start2) then
              bif decide (start2 < mid2) then
                F0 k v16 a5 start2 mid2 b_16 b_17 fun v17 =>
                bif decide (mid2 < (w64 (n_2 - start2))) then
                  bif decide ((w64 (n_2 - start2)) < b_15) then
                    F0 k v17 mid2 (w64 (n_2 - start2)) b_15 b_16 b_17 fun v18 =>
                    r0 v18
                  else
                    r0 v17
                else
                  r0 v17
              else
              bif decide (mid2 < (w64 (n_2 - start2))) then
                bif decide ((w64 (n_2 - start2)) < b_15) then
                  F0 k v16 mid2 (w64 (n_2 - start2)) b_15 b_16 b_17 fun v19 =>
                  r0 v19
                else
                  r0 v16
              else
                r0 v16
            else
            bif decide (mid2 < (w64 (n_2 - start2))) then
              bif decide ((w64 (n_2 - start2)) < b_15) then
                F0 k v16 mid2 (w64 (n_2 - start2)) b_15 b_16 b_17 fun v20 =>
                r0 v20
              else
                r0 v16
            else
              r0 v16
          else
          bif decide (a5 < start2) then
            bif decide (start2 < mid2) then
              F0 k data11 a5 start2 mid2 b_16 b_17 fun v21 =>
              bif decide (mid2 < (w64 (n_2 - start2))) then
                bif decide ((w64 (n_2 - start2)) < b_15) then
                  F0 k v21 mid2 (w64 (n_2 - start2)) b_15 b_16 b_17 fun v22 =>
                  r0 v22
                else
                  r0 v21
              else
                r0 v21
            else
            bif decide (mid2 < (w64 (n_2 - start2))) then
              bif decide ((w64 (n_2 - start2)) < b_15) then
                F0 k data11 mid2 (w64 (n_2 - start2)) b_15 b_16 b_17 fun v23 =>
                r0 v23
              else
                r0 data11
            else
              r0 data11
          else
          bif decide (mid2 < (w64 (n_2 - start2))) then
            bif decide ((w64 (n_2 - start2)) < b_15) then
              F0 k data11 mid2 (w64 (n_2 - start2)) b_15 b_16 b_17 fun v24 =>
              r0 v24
            else
              r0 data11
          else
            r0 data11
        else
        bif decide (a5 < start2) then
          bif decide (start2 < mid2) then
            F0 k data11 a5 start2 mid2 b_16 b_17 fun v25 =>
            bif decide (mid2 < (w64 (n_2 - start2))) then
              bif decide ((w64 (n_2 - start2)) < b_15) then
                F0 k v25 mid2 (w64 (n_2 - start2)) b_15 b_16 b_17 fun v26 =>
                r0 v26
              else
                r0 v25
            else
              r0 v25
          else
          bif decide (mid2 < (w64 (n_2 - start2))) then
            bif decide ((w64 (n_2 - start2)) < b_15) then
              F0 k data11 mid2 (w64 (n_2 - start2)) b_15 b_16 b_17 fun v27 =>
              r0 v27
            else
              r0 data11
          else
            r0 data11
        else
        bif decide (mid2 < (w64 (n_2 - start2))) then
          bif decide ((w64 (n_2 - start2)) < b_15) then
            F0 k data11 mid2 (w64 (n_2 - start2)) b_15 b_16 b_17 fun v28 =>
            r0 v28
          else
            r0 data11
        else
          r0 data11)
      r0
theorem h28_g {α : Type} (F0 : T11 α) (F1 : T8 α) (F2 : T11 α) (G3 : T10 α) (G9 : T12 α) (G15 : T10 α) (G21 : T12 α) (G33 : T13 α) (n : Nat) : GenF (α := α) Try.prog Try.f28 S9 (h28_x F0 F1 F2 G3 G9 G15 G21 G33 n) n (h28_b F0 F2 G3 G9 G15 G21 G33) := by intro _ _ _ _ _ _ _; kernel_rfl
theorem h28_rb {α : Type} (F : T11 α) (n : Nat) (h : F n = slices_symMergeCmpFunc_int64_4F_impl_multiples_1PP n) : h28_b F slices_rotateCmpFunc_int64_4F_impl_multiples_1PP slices_symMergeCmpFunc_int64_4F_impl_multiples_1PP_l3 slices_symMergeCmpFunc_int64_4F_impl_multiples_1PP_l9 slices_symMergeCmpFunc_int64_4F_impl_multiples_1PP_l15 slices_symMergeCmpFunc_int64_4F_impl_multiples_1PP_l21 slices_symMergeCmpFunc_int64_4F_impl_multiples_1PP_l33 n = h28_b slices_symMergeCmpFunc_int64_4F_impl_multiples_1PP slices_rotateCmpFunc_int64_4F_impl_multiples_1PP slices_symMergeCmpFunc_int64_4F_impl_multiples_1PP_l3 slices_symMergeCmpFunc_int64_4F_impl_multiples_1PP_l9 slices_symMergeCmpFunc_int64_4F_impl_multiples_1PP_l15 slices_symMergeCmpFunc_int64_4F_impl_multiples_1PP_l21 slices_symMergeCmpFunc_int64_4F_impl_multiples_1PP_l33 n := by delta h28_b; rw [h]
theorem h28_good {α : Type} : ∀ n, GoodFn (α := α) Try.prog 28 (byShape S9.sh (callS S9 slices_symMergeCmpFunc_int64_4F_impl_multiples_1PP n)) := good_rec (S := S9) (F := slices_symMergeCmpFunc_int64_4F_impl_multiples_1PP (α := α)) (body := fun (F : T11 α) => h28_b F slices_rotateCmpFunc_int64_4F_impl_multiples_1PP slices_symMergeCmpFunc_int64_4F_impl_multiples_1PP_l3 slices_symMergeCmpFunc_int64_4F_impl_multiples_1PP_l9 slices_symMergeCmpFunc_int64_4F_impl_multiples_1PP_l15 slices_symMergeCmpFunc_int64_4F_impl_multiples_1PP_l21 slices_symMergeCmpFunc_int64_4F_impl_multiples_1PP_l33) Try.func28 (by kernel_rfl) (by kernel_rfl) (by kernel_rfl) eqs_ok (fun (F : T11 α) n => h28_g F impl_multiples_1_2P_3P slices_rotateCmpFunc_int64_4F_impl_multiples_1PP slices_symMergeCmpFunc_int64_4F_impl_multiples_1PP_l3 slices_symMergeCmpFunc_int64_4F_impl_multiples_1PP_l9 slices_symMergeCmpFunc_int64_4F_impl_multiples_1PP_l15 slices_symMergeCmpFunc_int64_4F_impl_multiples_1PP_l21 slices_symMergeCmpFunc_int64_4F_impl_multiples_1PP_l33 n) (by kernel_rfl) (fun n => by delta h28_b; funext _ _ _ _ _ _ _; exact (slices_symMergeCmpFunc_int64_4F_impl_multiples_1PP.eq_2 ..)) h28_rb (allC h20_good (allC h29_good allN)) (fun (F : T11 α) => (allC (loop_fine (by kernel_rfl) (fun n => by delta h28_b3; funext _ _ _ _ _ _ _ _; exact (slices_symMergeCmpFunc_int64_4F_impl_multiples_1PP_l3.eq_2 ..).symm) (fun n => h28_g3 F impl_multiples_1_2P_3P slices_rotateCmpFunc_int64_4F_impl_multiples_1PP slices_symMergeCmpFunc_int64_4F_impl_multiples_1PP_l3 slices_symMergeCmpFunc_int64_4F_impl_multiples_1PP_l9 slices_symMergeCmpFunc_int64_4F_impl_multiples_1PP_l15 slices_symMergeCmpFunc_int64_4F_impl_multiples_1PP_l21 slices_symMergeCmpFunc_int64_4F_impl_multiples_1PP_l33 n)) (allC (loop_fine (by kernel_rfl) (fun n => by delta h28_b9; funext _ _ _ _ _; exact (slices_symMergeCmpFunc_int64_4F_impl_multiples_1PP_l9.eq_2 ..).symm) (fun n => h28_g9 F impl_multiples_1_2P_3P slices_rotateCmpFunc_int64_4F_impl_multiples_1PP slices_symMergeCmpFunc_int64_4F_impl_multiples_1PP_l3 slices_symMergeCmpFunc_int64_4F_impl_multiples_1PP_l9 slices_symMergeCmpFunc_int64_4F_impl_multiples_1PP_l15 slices_symMergeCmpFunc_int64_4F_impl_multiples_1PP_l21 slices_symMergeCmpFunc_int64_4F_impl_multiples_1PP_l33 n)) (allC (loop_fine (by kernel_rfl) (fun n => by delta h28_b15; funext _ _ _ _ _ _ _ _; exact (slices_symMergeCmpFunc_int64_4F_impl_multiples_1PP_l15.eq_2 ..).symm) (fun n => h28_g15 F impl_multiples_1_2P_3P slices_rotateCmpFunc_int64_4F_impl_multiples_1PP slices_symMergeCmpFunc_int64_4F_impl_multiples_1PP_l3 slices_symMergeCmpFunc_int64_4F_impl_multiples_1PP_l9 slices_symMergeCmpFunc_int64_4F_impl_multiples_1PP_l15 slices_symMergeCmpFunc_int64_4F_impl_multiples_1PP_l21 slices_symMergeCmpFunc_int64_4F_impl_multiples_1PP_l33 n)) (allC (loop_fine (by kernel_rfl) (fun n => by delta h28_b21; funext _ _ _ _ _; exact (slices_symMergeCmpFunc_int64_4F_impl_multiples_1PP_l21.eq_2 ..).symm) (fun n => h28_g21 F impl_multiples_1_2P_3P slices_rotateCmpFunc_int64_4F_impl_multiples_1PP slices_symMergeCmpFunc_int64_4F_impl_multiples_1PP_l3 slices_symMergeCmpFunc_int64_4F_impl_multiples_1PP_l9 slices_symMergeCmpFunc_int64_4F_impl_multiples_1PP_l15 slices_symMergeCmpFunc_int64_4F_impl_multiples_1PP_l21 slices_symMergeCmpFunc_int64_4F_impl_multiples_1PP_l33 n)) (allC (loop_fine (by kernel_rfl) (fun n => by delta h28_b33; funext _ _ _ _ _ _ _ _ _ _ _ _ _; exact (slices_symMergeCmpFunc_int64_4F_impl_multiples_1PP_l33.eq_2 ..).symm) (fun n => h28_g33 F impl_multiples_1_2P_3P slices_rotateCmpFunc_int64_4F_impl_multiples_1PP slices_symMergeCmpFunc_int64_4F_impl_multiples_1PP_l3 slices_symMergeCmpFunc_int64_4F_impl_multiples_1PP_l9 slices_symMergeCmpFunc_int64_4F_impl_multiples_1PP_l15 slices_symMergeCmpFunc_int64_4F_impl_multiples_1PP_l21 slices_symMergeCmpFunc_int64_4F_impl_multiples_1PP_l33 n)) allN))))))

/-! slices.stableCmpFunc[int64] -/
def h24_t2 : Tpl := ⟨(.sl 0 :: (.int .i64 :: (.fn 20 [.ptr 129 0 0, .ptr 130 0 0] :: (.any :: (.any :: (.any :: (.int .i64 :: (.int .i64 :: (.int .i64 :: (anyN 54 [])))))))))), [(0, .rows 1 2 (.int .i64)), (129, .ints 0 2 .i64 1), (130, .ints 0 2 .i64 1)], [], false⟩
def h24_p2 : PcS := loopS [.int, .int, .int, .int, .rows (.int .i64), .int, .int] [0]
def h24_t9 : Tpl := ⟨(.sl 0 :: (.int .i64 :: (.fn 20 [.ptr 129 0 0, .ptr 130 0 0] :: (.any :: (.any :: (.any :: (.int .i64 :: (.int .i64 :: (.int .i64 :: (anyN 54 [])))))))))), [(0, .rows 1 2 (.int .i64)), (129, .ints 0 2 .i64 1), (130, .ints 0 2 .i64 1)], [], false⟩
def h24_p9 : PcS := loopS [.int, .int, .int, .int, .rows (.int .i64), .int, .int] [4]
def h24_t7 : Tpl := ⟨(.sl 0 :: (.int .i64 :: (.fn 20 [.ptr 129 0 0, .ptr 130 0 0] :: (.any :: (.any :: (.any :: (.int .i64 :: (anyN 56 [])))))))), [(0, .rows 1 2 (.int .i64)), (129, .ints 0 2 .i64 1), (130, .ints 0 2 .i64 1)], [], false⟩
def h24_p7 : PcS := loopS [.int, .int, .rows (.int .i64), .int, .int] [2]
abbrev h24_x {α : Type} (F0 : T14 α) (F1 : T11 α) (G2 : T9 α) (G9 : T9 α) (G7 : T15 α) : Nat → Ctx α := ctxS false M eqs jt0 [⟨27, S8, F0⟩, ⟨28, S9, F1⟩] [lpT 2 h24_t2 h24_p2 R4 G2, lpT 9 h24_t9 h24_p9 R4 G9, lpT 7 h24_t7 h24_p7 R4 G7]
def h24_b2 {α : Type} (F0 : T14 α) (G2 : T9 α) (k : Nat) (n_1 : Int) (blockSize : Int) (a : Int) (b_ : Int) (data1 : List Int) (b_1 : Int) (b_2 : Int) (b0 : Int → Int → Int → Int → List Int → Int → Int → Option α) (r0 : List Int → Option α) : Option α :=
  bif decide (b_ ≤ n_1) then
    F0 k data1 a b_ b_1 b_2 fun v =>
    G2 k n_1 blockSize b_ (w64 (b_ + blockSize)) v b_1 b_2 b0 r0
  else
    b0 n_1 blockSize a b_ data1 b_1 b_2
theorem h24_g2 {α : Type} (F0 : T14 α) (F1 : T11 α) (G2 : T9 α) (G9 : T9 α) (G7 : T15 α) (n : Nat) : GenL (α := α) Try.prog Try.f24 S10 (h24_x F0 F1 G2 G9 G7 n) 2 h24_t2 h24_p2 n G2 (h24_b2 F0 G2) := by intro _ _ _ _ _ _ _ _ _ _ _ _ _; kernel_rfl
def h24_b9 {α : Type} (F1 : T11 α) (G9 : T9 α) (k : Nat) (n_4 : Int) (blockSize3 : Int) (a2 : Int) (b_8 : Int) (data4 : List Int) (b_9 : Int) (b_10 : Int) (b4 : Int → Int → Int → Int → List Int → Int → Int → Option α) (r0 : List Int → Option α) : Option α :=
  bif decide (b_8 ≤ n_4) then
    F1 k data4 a2 (w64 (a2 + blockSize3)) b_8 b_9 b_10 fun v2 =>
    G9 k n_4 blockSize3 b_8 (w64 (b_8 + (w64 (2 * blockSize3)))) v2 b_9 b_10 b4 r0
  else
    b4 n_4 blockSize3 a2 b_8 data4 b_9 b_10
theorem h24_g9 {α : Type} (F0 : T14 α) (F1 : T11 α) (G2 : T9 α) (G9 : T9 α) (G7 : T15 α) (n : Nat) : GenL (α := α) Try.prog Try.f24 S10 (h24_x F0 F1 G2 G9 G7 n) 9 h24_t9 h24_p9 n G9 (h24_b9 F1 G9) := by intro _ _ _ _ _ _ _ _ _ _ _ _ _; kernel_rfl
def h24_b7 {α : Type} (F1 : T11 α) (G9 : T9 α) (G7 : T15 α) (k : Nat) (n_3 : Int) (blockSize2 : Int) (data3 : List Int) (b_6 : Int) (b_7 : Int) (b2 : Int → Int → List Int → Int → Int → Option α) (r0 : List Int → Option α) : Option α :=
  bif decide (blockSize2 < n_3) then
    G9 k n_3 blockSize2 0 (w64 (2 * blockSize2)) data3 b_6 b_7
      (fun n_5 blockSize4 a3 _ data5 b_12 b_13 =>
        bif decide ((w64 (a3 + blockSize4)) < n_5) then
          F1 k data5 a3 (w64 (a3 + blockSize4)) n_5 b_12 b_13 fun v3 =>
          G7 k n_5 (w64 (blockSize4 * 2)) v3 b_12 b_13 b2 r0
        else
          G7 k n_5 (w64 (blockSize4 * 2)) data5 b_12 b_13 b2 r0)
      r0
  else
    b2 n_3 blockSize2 data3 b_6 b_7
theorem h24_g7 {α : Type} (F0 : T14 α) (F1 : T11 α) (G2 : T9 α) (G9 : T9 α) (G7 : T15 α) (n : Nat) : GenL (α := α) Try.prog Try.f24 S10 (h24_x F0 F1 G2 G9 G7 n) 7 h24_t7 h24_p7 n G7 (h24_b7 F1 G9 G7) := by intro _ _ _ _ _ _ _ _ _ _ _; kernel_rfl
def h24_b {α : Type} (F0 : T14 α) (G2 : T9 α) (G7 : T15 α) (k : Nat) (data : List Int) (n_ : Int) (cmp : Int) (cmp1 : Int) (r0 : List Int → Option α) : Option α :=
  G2 k n_ 20 0 20 data cmp cmp1
    (fun n_2 blockSize1 a1 _ data2 b_4 b_5 =>
      F0 k data2 a1 n_2 b_4 b_5 fun v1 =>
      G7 k n_2 blockSize1 v1 b_4 b_5
        (fun _ _ data6 _ _ =>
          r0 data6)
        r0)
    r0
theorem h24_g {α : Type} (F0 : T14 α) (F1 : T11 α) (G2 : T9 α) (G9 : T9 α) (G7 : T15 α) (n : Nat) : GenF (α := α) Try.prog Try.f24 S10 (h24_x F0 F1 G2 G9 G7 n) n (h24_b F0 G2 G7) := by intro _ _ _ _ _; kernel_rfl
theorem h24_good {α : Type} : ∀ n, GoodFn (α := α) Try.prog 24 (byShape S10.sh (callS S10 slices_stableCmpFunc_int64_2F_impl_multiples_1PP n)) := good_of Try.func24 (by kernel_rfl) (by kernel_rfl) (by kernel_rfl) eqs_ok (fun n => h24_g slices_insertionSortCmpFunc_int64_3F_impl_multiples_1PP slices_symMergeCmpFunc_int64_4F_impl_multiples_1PP slices_stableCmpFunc_int64_2F_impl_multiples_1PP_l2 slices_stableCmpFunc_int64_2F_impl_multiples_1PP_l9 slices_stableCmpFunc_int64_2F_impl_multiples_1PP_l7 n) (by delta h24_b slices_stableCmpFunc_int64_2F_impl_multiples_1PP; rfl) (allC h27_good (allC h28_good allN)) (allC (loop_fine (by kernel_rfl) (fun n => by delta h24_b2; funext _ _ _ _ _ _ _ _ _; exact (slices_stableCmpFunc_int64_2F_impl_multiples_1PP_l2.eq_2 ..).symm) (fun n => h24_g2 slices_insertionSortCmpFunc_int64_3F_impl_multiples_1PP slices_symMergeCmpFunc_int64_4F_impl_multiples_1PP slices_stableCmpFunc_int64_2F_impl_multiples_1PP_l2 slices_stableCmpFunc_int64_2F_impl_multiples_1PP_l9 slices_stableCmpFunc_int64_2F_impl_multiples_1PP_l7 n)) (allC (loop_fine (by kernel_rfl) (fun n => by delta h24_b9; funext _ _ _ _ _ _ _ _ _; exact (slices_stableCmpFunc_int64_2F_impl_multiples_1PP_l9.eq_2 ..).symm) (fun n => h24_g9 slices_insertionSortCmpFunc_int64_3F_impl_multiples_1PP slices_symMergeCmpFunc_int64_4F_impl_multiples_1PP slices_stableCmpFunc_int64_2F_impl_multiples_1PP_l2 slices_stableCmpFunc_int64_2F_impl_multiples_1PP_l9 slices_stableCmpFunc_int64_2F_impl_multiples_1PP_l7 n)) (allC (loop_fine (by kernel_rfl) (fun n => by delta h24_b7; funext _ _ _ _ _ _ _; exact (slices_stableCmpFunc_int64_2F_impl_multiples_1PP_l7.eq_2 ..).symm) (fun n => h24_g7 slices_insertionSortCmpFunc_int64_3F_impl_multiples_1PP slices_symMergeCmpFunc_int64_4F_impl_multiples_1PP slices_stableCmpFunc_int64_2F_impl_multiples_1PP_l2 slices_stableCmpFunc_int64_2F_impl_multiples_1PP_l9 slices_stableCmpFunc_int64_2F_impl_multiples_1PP_l7 n)) allN)))

/-! slices.SortStableFunc[[]int64,int64] -/
abbrev h19_x {α : Type} (F0 : T16 α) : Nat → Ctx α := ctxS false M eqs jt0 [⟨24, S10, F0⟩] []
def h19_b {α : Type} (F0 : T16 α) (k : Nat) (x : List Int) (cmp : Int) (cmp1 : Int) (r0 : List Int → Option α) : Option α :=
  F0 k x (((List.length x) : Nat) : Int) cmp cmp1 fun v =>
  r0 v
theorem h19_g {α : Type} (F0 : T16 α) (n : Nat) : GenF (α := α) Try.prog Try.f19 S11 (h19_x F0 n) n (h19_b F0) := by intro _ _ _ _; kernel_rfl
theorem h19_good {α : Type} : ∀ n, GoodFn (α := α) Try.prog 19 (byShape S11.sh (callS S11 slices_SortStableFunc_int64_int64_1F_impl_multiples_1PP n)) := good_of Try.func19 (by kernel_rfl) (by kernel_rfl) (by kernel_rfl) eqs_ok (fun n => h19_g slices_stableCmpFunc_int64_2F_impl_multiples_1PP n) (by delta h19_b slices_SortStableFunc_int64_int64_1F_impl_multiples_1PP; rfl) (allC h24_good allN) allN

/-! loop.example/g01297/impl.multiples -/
def h14_t3 : Tpl := ⟨(.any :: (.any :: (.any :: (.ptr 192 0 0 :: (.ptr 256 0 0 :: (.any :: (.any :: (.sl 576 :: (.any :: (.any :: (.int .i64 :: (.int .i64 :: (anyN 11 []))))))))))))), [(192, .ints 2 2 .i64 1), (256, .ints 2 2 .i64 1), (576, .rows 2 2 (.int .i64))], [], false⟩
def h14_p3 : PcS := loopS [.int, .int, .int, .int, .rows (.int .i64)] [0]
abbrev h14_x {α : Type} (F0 : T17 α) (G3 : T5 α) : Nat → Ctx α := ctxS false M eqs jt0 [⟨19, S11, F0⟩] [lpT 3 h14_t3 h14_p3 R2 G3]
def h14_b3 {α : Type} (G3 : T5 α) (k : Nat) (x : Int) (x1 : Int) (p_1 : Int) (q_1 : Int) (out : List Int) (b0 : Int → Int → Int → Int → List Int → Option α) (r0 : List Int → Option α) : Option α :=
  bif decide (x1 < x) then
    bif decide (((List.length out) + 1) ≤ big) then
      G3 k x (w64 (x1 + 1)) p_1 q_1 (out ++ [x1]) b0 r0
    else
      none
  else
    b0 x x1 p_1 q_1 out
theorem h14_g3 {α : Type} (F0 : T17 α) (G3 : T5 α) (n : Nat) : GenL (α := α) Try.prog Try.f14 S4 (h14_x F0 G3 n) 3 h14_t3 h14_p3 n G3 (h14_b3 G3) := by intro _ _ _ _ _ _ _; kernel_rfl
def h14_b {α : Type} (F0 : T17 α) (G3 : T5 α) (k : Nat) (p_ : Int) (q_ : Int) (n_ : Int) (r0 : List Int → Option α) : Option α :=
  G3 k n_ 0 p_ q_ []
    (fun _ _ p_2 q_2 out1 =>
      F0 k out1 p_2 q_2 fun v =>
      r0 v)
    r0
theorem h14_g {α : Type} (F0 : T17 α) (G3 : T5 α) (n : Nat) : GenF (α := α) Try.prog Try.f14 S4 (h14_x F0 G3 n) n (h14_b F0 G3) := by intro _ _ _ _; kernel_rfl
theorem h14_good {α : Type} : ∀ n, GoodFn (α := α) Try.prog 14 (byShape S4.sh (callS S4 impl_multiples n)) := good_of Try.func14 (by kernel_rfl) (by kernel_rfl) (by kernel_rfl) eqs_ok (fun n => h14_g slices_SortStableFunc_int64_int64_1F_impl_multiples_1PP impl_multiples_l3 n) (by delta h14_b impl_multiples; rfl) (allC h19_good allN) (allC (loop_fine (by kernel_rfl) (fun n => by delta h14_b3; funext _ _ _ _ _ _ _; exact (impl_multiples_l3.eq_2 ..).symm) (fun n => h14_g3 slices_SortStableFunc_int64_int64_1F_impl_multiples_1PP impl_multiples_l3 n)) allN)

/-! loop.example/g01297/impl.OrderOfMultiples -/
abbrev h5_x {α : Type} (F0 : T7 α) (F1 : T0 α) (F2 : T6 α) : Nat → Ctx α := ctxS false M eqs jt0 [⟨12, S6, F0⟩, ⟨13, S0, F1⟩, ⟨14, S4, F2⟩] []
def h5_b {α : Type} (F0 : T7 α) (F1 : T0 α) (F2 : T6 α) (k : Nat) (p_ : Int) (q_ : Int) (n_ : Int) (r0 : Int → Option α) (r1 : List Int → Int → Option α) : Option α :=
  F0 k p_ q_ fun v =>
  bif (!v) then
    r0 2
  else
    F1 k n_ 1 500 fun v1 =>
    bif (!v1) then
      r0 2
    else
      F2 k p_ q_ n_ fun v2 =>
      r1 v2 0
theorem h5_g {α : Type} (F0 : T7 α) (F1 : T0 α) (F2 : T6 α) (n : Nat) : GenF (α := α) Try.prog Try.f5 S5 (h5_x F0 F1 F2 n) n (h5_b F0 F1 F2) := by intro _ _ _ _; kernel_rfl
theorem h5_good {α : Type} : ∀ n, GoodFn (α := α) Try.prog 5 (byShape S5.sh (callS S5 impl_OrderOfMultiples n)) := good_of Try.func5 (by kernel_rfl) (by kernel_rfl) (by kernel_rfl) eqs_ok (fun n => h5_g impl_placesOk impl_in impl_multiples n) (by delta h5_b impl_OrderOfMultiples; rfl) (allC h12_good (allC h13_good (allC h14_good allN))) allN

/-! loop.example/g01297/laws.eqInt64S -/
abbrev h6_x {α : Type}  : Nat → Ctx α := ctxS false M eqs jt0 [] []
def h6_b {α : Type}  (_ : Nat) (r0 : Bool → Option α) : Option α :=
  r0 true
theorem h6_g {α : Type}  (n : Nat) : GenF (α := α) Try.prog Try.f6 S12 (h6_x n) n (h6_b) := by intro _; kernel_rfl
theorem h6_good {α : Type} : ∀ n, GoodFn (α := α) Try.prog 6 (byShape S12.sh (callS S12 laws_eqInt64S_0N_1N n)) := good_of Try.func6 (by kernel_rfl) (by kernel_rfl) (by kernel_rfl) eqs_ok (fun n => h6_g n) (by delta h6_b laws_eqInt64S_0N_1N; rfl) allN allN

/-! loop.example/g01297/laws.markInt64S -/
abbrev h7_x {α : Type}  : Nat → Ctx α := ctxS false M eqs jt0 [] []
def h7_b {α : Type}  (_ : Nat) (k_ : Int) (r0 : Int → Option α) : Option α :=
  r0 k_
theorem h7_g {α : Type}  (n : Nat) : GenF (α := α) Try.prog Try.f7 S13 (h7_x n) n (h7_b) := by intro _ _; kernel_rfl
theorem h7_good {α : Type} : ∀ n, GoodFn (α := α) Try.prog 7 (byShape S13.sh (callS S13 laws_markInt64S_0N n)) := good_of Try.func7 (by kernel_rfl) (by kernel_rfl) (by kernel_rfl) eqs_ok (fun n => h7_g n) (by delta h7_b laws_markInt64S_0N; rfl) allN allN

/-! loop.example/g01297/laws.heldInt64S -/
abbrev h8_x {α : Type}  : Nat → Ctx α := ctxS false M eqs jt0 [] []
def h8_b {α : Type}  (_ : Nat) (k_ : Int) (r0 : Int → Option α) : Option α :=
  r0 k_
theorem h8_g {α : Type}  (n : Nat) : GenF (α := α) Try.prog Try.f8 S13 (h8_x n) n (h8_b) := by intro _ _; kernel_rfl
theorem h8_good {α : Type} : ∀ n, GoodFn (α := α) Try.prog 8 (byShape S13.sh (callS S13 laws_heldInt64S_0N n)) := good_of Try.func8 (by kernel_rfl) (by kernel_rfl) (by kernel_rfl) eqs_ok (fun n => h8_g n) (by delta h8_b laws_heldInt64S_0N; rfl) allN allN

/-! loop.example/g01297/laws.eqInt64S -/
def h6a_t4 : Tpl := ⟨(.sl 0 :: (.nilsl :: (.any :: (.any :: (.any :: (.int .i64 :: (anyN 20 []))))))), [(0, .rows 0 2 (.int .i64))], [], false⟩
def h6a_p4 : PcS := loopS [.int, .rows (.int .i64)] [0]
abbrev h6a_x {α : Type} (G4 : T18 α) : Nat → Ctx α := ctxS false M eqs jt0 [] [lpT 4 h6a_t4 h6a_p4 R0 G4]
def h6a_b4 {α : Type}  (_ : Nat) (i : Int) (a1 : List Int) (b0 : Int → List Int → Option α) (_ : Bool → Option α) : Option α :=
  bif decide (i < (((List.length a1) : Nat) : Int)) then
    bif (decide (0 ≤ i) && decide (i < (((List.length a1) : Nat) : Int))) then
      (a1[i.toNat]?).bind fun _ =>
      none
    else
      none
  else
    b0 i a1
theorem h6a_g4 {α : Type} (G4 : T18 α) (n : Nat) : GenL (α := α) Try.prog Try.f6 S14 (h6a_x G4 n) 4 h6a_t4 h6a_p4 n G4 (h6a_b4) := by intro _ _ _ _; kernel_rfl
def h6a_b {α : Type} (G4 : T18 α) (k : Nat) (a : List Int) (r0 : Bool → Option α) : Option α :=
  bif (!decide ((((List.length a) : Nat) : Int) = 0)) then
    r0 false
  else
    G4 k 0 a
      (fun _ _ =>
        r0 true)
      r0
theorem h6a_g {α : Type} (G4 : T18 α) (n : Nat) : GenF (α := α) Try.prog Try.f6 S14 (h6a_x G4 n) n (h6a_b G4) := by intro _ _; kernel_rfl
theorem h6a_good {α : Type} : ∀ n, GoodFn (α := α) Try.prog 6 (byShape S14.sh (callS S14 laws_eqInt64S_1N n)) := good_of Try.func6 (by kernel_rfl) (by kernel_rfl) (by kernel_rfl) eqs_ok (fun n => h6a_g laws_eqInt64S_1N_l4 n) (by delta h6a_b laws_eqInt64S_1N; rfl) allN (allC (loop_fine (by kernel_rfl) (fun n => by delta h6a_b4; funext _ _ _ _; exact (laws_eqInt64S_1N_l4.eq_2 ..).symm) (fun n => h6a_g4 laws_eqInt64S_1N_l4 n)) allN)

/-! loop.example/g01297/laws.markInt64S -/
def h7a_t2 : Tpl := ⟨(.sl 0 :: (.int .i64 :: (.any :: (.any :: (.any :: (.int .i64 :: (anyN 13 []))))))), [(0, .rows 1 2 (.int .i64))], [], false⟩
def h7a_p2 : PcS := loopS [.int, .int, .rows (.int .i64)] [0]
abbrev h7a_x {α : Type} (G2 : T19 α) : Nat → Ctx α := ctxS false M eqs jt0 [] [lpT 2 h7a_t2 h7a_p2 R5 G2]
def h7a_b2 {α : Type} (G2 : T19 α) (k : Nat) (k_1 : Int) (i : Int) (a1 : List Int) (b0 : Int → Int → List Int → Option α) (r0 : Int → List Int → Option α) : Option α :=
  bif decide (i < (((List.length a1) : Nat) : Int)) then
    bif (decide (0 ≤ i) && decide (i < (((List.length a1) : Nat) : Int))) then
      (a1[i.toNat]?).bind fun _ =>
      G2 k (w64 (k_1 + 1)) (w64 (i + 1)) (List.set a1 i.toNat k_1) b0 r0
    else
      none
  else
    b0 k_1 i a1
theorem h7a_g2 {α : Type} (G2 : T19 α) (n : Nat) : GenL (α := α) Try.prog Try.f7 S15 (h7a_x G2 n) 2 h7a_t2 h7a_p2 n G2 (h7a_b2 G2) := by intro _ _ _ _ _ _ _; kernel_rfl
def h7a_b {α : Type} (G2 : T19 α) (k : Nat) (a : List Int) (k_ : Int) (r0 : Int → List Int → Option α) : Option α :=
  G2 k k_ 0 a
    (fun k_2 _ a2 =>
      r0 k_2 a2)
    r0
theorem h7a_g {α : Type} (G2 : T19 α) (n : Nat) : GenF (α := α) Try.prog Try.f7 S15 (h7a_x G2 n) n (h7a_b G2) := by intro _ _ _; kernel_rfl
theorem h7a_good {α : Type} : ∀ n, GoodFn (α := α) Try.prog 7 (byShape S15.sh (callS S15 laws_markInt64S n)) := good_of Try.func7 (by kernel_rfl) (by kernel_rfl) (by kernel_rfl) eqs_ok (fun n => h7a_g laws_markInt64S_l2 n) (by delta h7a_b laws_markInt64S; rfl) allN (allC (loop_fine (by kernel_rfl) (fun n => by delta h7a_b2; funext _ _ _ _ _; exact (laws_markInt64S_l2.eq_2 ..).symm) (fun n => h7a_g2 laws_markInt64S_l2 n)) allN)

/-! loop.example/g01297/laws.heldInt64S -/
def h8a_t2 : Tpl := ⟨(.sl 0 :: (.int .i64 :: (.any :: (.any :: (.any :: (.int .i64 :: (anyN 15 []))))))), [(0, .rows 0 2 (.int .i64))], [], false⟩
def h8a_p2 : PcS := loopS [.int, .int, .rows (.int .i64)] [0]
abbrev h8a_x {α : Type} (G2 : T20 α) : Nat → Ctx α := ctxS false M eqs jt0 [] [lpT 2 h8a_t2 h8a_p2 R1 G2]
def h8a_b2 {α : Type} (G2 : T20 α) (k : Nat) (k_1 : Int) (i : Int) (a1 : List Int) (b0 : Int → Int → List Int → Option α) (r0 : Int → Option α) : Option α :=
  bif decide (i < (((List.length a1) : Nat) : Int)) then
    bif (decide (0 ≤ i) && decide (i < (((List.length a1) : Nat) : Int))) then
      (a1[i.toNat]?).bind fun e_ =>
      bif (!decide (e_ = k_1)) then
        r0 (-1)
      else
        G2 k (w64 (k_1 + 1)) (w64 (i + 1)) a1 b0 r0
    else
      none
  else
    b0 k_1 i a1
theorem h8a_g2 {α : Type} (G2 : T20 α) (n : Nat) : GenL (α := α) Try.prog Try.f8 S16 (h8a_x G2 n) 2 h8a_t2 h8a_p2 n G2 (h8a_b2 G2) := by intro _ _ _ _ _; kernel_rfl
def h8a_b {α : Type} (G2 : T20 α) (k : Nat) (a : List Int) (k_ : Int) (r0 : Int → Option α) : Option α :=
  G2 k k_ 0 a
    (fun k_2 _ _ =>
      r0 k_2)
    r0
theorem h8a_g {α : Type} (G2 : T20 α) (n : Nat) : GenF (α := α) Try.prog Try.f8 S16 (h8a_x G2 n) n (h8a_b G2) := by intro _ _ _; kernel_rfl
theorem h8a_good {α : Type} : ∀ n, GoodFn (α := α) Try.prog 8 (byShape S16.sh (callS S16 laws_heldInt64S n)) := good_of Try.func8 (by kernel_rfl) (by kernel_rfl) (by kernel_rfl) eqs_ok (fun n => h8a_g laws_heldInt64S_l2 n) (by delta h8a_b laws_heldInt64S; rfl) allN (allC (loop_fine (by kernel_rfl) (fun n => by delta h8a_b2; funext _ _ _ _ _; exact (laws_heldInt64S_l2.eq_2 ..).symm) (fun n => h8a_g2 laws_heldInt64S_l2 n)) allN)

/-! loop.example/g01297/laws.eqInt64S -/
abbrev h6b_x {α : Type}  : Nat → Ctx α := ctxS false M eqs jt0 [] []
def h6b_b {α : Type}  (_ : Nat) (b_ : List Int) (r0 : Bool → Option α) : Option α :=
  bif (!decide (0 = (((List.length b_) : Nat) : Int))) then
    r0 false
  else
    r0 true
theorem h6b_g {α : Type}  (n : Nat) : GenF (α := α) Try.prog Try.f6 S17 (h6b_x n) n (h6b_b) := by intro _ _; kernel_rfl
theorem h6b_good {α : Type} : ∀ n, GoodFn (α := α) Try.prog 6 (byShape S17.sh (callS S17 laws_eqInt64S_0N n)) := good_of Try.func6 (by kernel_rfl) (by kernel_rfl) (by kernel_rfl) eqs_ok (fun n => h6b_g n) (by delta h6b_b laws_eqInt64S_0N; rfl) allN allN

/-! loop.example/g01297/laws.eqInt64S -/
def h6c_t4 : Tpl := ⟨(.sl 0 :: (.sl 64 :: (.any :: (.any :: (.any :: (.int .i64 :: (anyN 20 []))))))), [(0, .rows 0 2 (.int .i64)), (64, .rows 0 2 (.int .i64))], [], false⟩
def h6c_p4 : PcS := loopS [.int, .rows (.int .i64), .rows (.int .i64)] [0]
abbrev h6c_x {α : Type} (G4 : T21 α) : Nat → Ctx α := ctxS false M eqs jt0 [] [lpT 4 h6c_t4 h6c_p4 R0 G4]
def h6c_b4 {α : Type} (G4 : T21 α) (k : Nat) (i : Int) (a1 : List Int) (b_1 : List Int) (b0 : Int → List Int → List Int → Option α) (r0 : Bool → Option α) : Option α :=
  bif decide (i < (((List.length a1) : Nat) : Int)) then
    bif (decide (0 ≤ i) && decide (i < (((List.length a1) : Nat) : Int))) then
      (a1[i.toNat]?).bind fun e_ =>
      bif (decide (0 ≤ i) && decide (i < (((List.length b_1) : Nat) : Int))) then
        (b_1[i.toNat]?).bind fun e_1 =>
        bif (!decide (e_ = e_1)) then
          r0 false
        else
          G4 k (w64 (i + 1)) a1 b_1 b0 r0
      else
        none
    else
      none
  else
    b0 i a1 b_1
theorem h6c_g4 {α : Type} (G4 : T21 α) (n : Nat) : GenL (α := α) Try.prog Try.f6 S18 (h6c_x G4 n) 4 h6c_t4 h6c_p4 n G4 (h6c_b4 G4) := by intro _ _ _ _ _; kernel_rfl
def h6c_b {α : Type} (G4 : T21 α) (k : Nat) (a : List Int) (b_ : List Int) (r0 : Bool → Option α) : Option α :=
  bif (!decide ((((List.length a) : Nat) : Int) = (((List.length b_) : Nat) : Int))) then
    r0 false
  else
    G4 k 0 a b_
      (fun _ _ _ =>
        r0 true)
      r0
theorem h6c_g {α : Type} (G4 : T21 α) (n : Nat) : GenF (α := α) Try.prog Try.f6 S18 (h6c_x G4 n) n (h6c_b G4) := by intro _ _ _; kernel_rfl
theorem h6c_good {α : Type} : ∀ n, GoodFn (α := α) Try.prog 6 (byShape S18.sh (callS S18 laws_eqInt64S n)) := good_of Try.func6 (by kernel_rfl) (by kernel_rfl) (by kernel_rfl) eqs_ok (fun n => h6c_g laws_eqInt64S_l4 n) (by delta h6c_b laws_eqInt64S; rfl) allN (allC (loop_fine (by kernel_rfl) (fun n => by delta h6c_b4; funext _ _ _ _ _; exact (laws_eqInt64S_l4.eq_2 ..).symm) (fun n => h6c_g4 laws_eqInt64S_l4 n)) allN)

end Go.Proofs.Ytbhejffnpemdhaa
