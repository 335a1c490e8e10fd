/- The program's functions hold to their readings without memory: printed by a program of ours. -/
import Derived.Test.YtjjmfadknpdnjaaSeLShapes
namespace Go.Proofs.Ytjjmfadknpdnjaa
open Go Go.Ev Go.Sh Go.Proofs

/-! loop.example/g01297/laws.big -/
abbrev h4_x {α : Type}  : Nat → Ctx α := ctxS M eqs jt0 [] []
def h4_b {α : Type}  (_ : Nat) (code : List Int) (r0 : Bool → Option α) : Option α :=
  r0 (decide (4096 < (((List.length code) : Nat) : Int)))
theorem h4_g {α : Type}  (n : Nat) : GenF (α := α) Try.prog Try.f4 S0 (h4_x n) n (h4_b) := by intro _ _; kernel_rfl
theorem h4_good {α : Type} : ∀ n, GoodFn (α := α) Try.prog 4 (byShape S0.sh (callS S0 laws_big n)) := good_of Try.func4 (by kernel_rfl) (by kernel_rfl) (by kernel_rfl) eqs_ok (fun n => h4_g n) (by delta h4_b laws_big; rfl) allN allN

/-! loop.example/g01297/spec.l01From -/
def h23_t3 : Tpl := ⟨(.sl 0 :: (.any :: (.any :: (.ptr 704 0 0 :: (.int .i64 :: (anyN 33 [])))))), [(0, .rows 0 5 (.int .u8)), (704, .mix 2 76 [.sl 0, .int .i64, .int .u64])], [], false⟩
def h23_p3 : PcS := loopS [.int, .rows (.int .u8), .int, .int] [0]
abbrev h23_x {α : Type} (G3 : T0 α) : Nat → Ctx α := ctxS M eqs jt0 [] [lpT 3 h23_t3 h23_p3 R1 G3]
def h23_b3 {α : Type} (G3 : T0 α) (k : Nat) (i : Int) (code1 : List Int) (s : Int) (s1 : Int) (b0 : Int → List Int → Int → Int → Option α) (r0 : Int → Int → Option α) : Option α :=
  bif decide (i < (((List.length code1) : Nat) : Int)) then
    bif decide (i < 4096) then
      bif (decide (0 ≤ i) && decide (i < (((List.length code1) : Nat) : Int))) then
        (code1[i.toNat]?).bind fun e_ =>
        G3 k (w64 (i + 1)) code1 s (IntKind.wrap .u64 ((IntKind.wrap .u64 ((IntKind.wrap .u64 (s1 * 1099511628211)) + (IntKind.wrap .u64 e_))) + 107)) b0 r0
      else
        none
    else
      b0 i code1 s s1
  else
    b0 i code1 s s1
theorem h23_g3 {α : Type} (G3 : T0 α) (n : Nat) : GenL (α := α) Try.prog Try.f23 S1 (h23_x G3 n) 3 h23_t3 h23_p3 n G3 (h23_b3 G3) := by intro _ _ _ _ _ _; kernel_rfl
def h23_b {α : Type} (G3 : T0 α) (k : Nat) (code : List Int) (r0 : Int → Int → Option α) : Option α :=
  G3 k 0 code 0 (IntKind.wrap .u64 (12971 + (IntKind.wrap .u64 (((List.length code) : Nat) : Int))))
    (fun _ _ s2 s3 =>
      r0 s2 s3)
    r0
theorem h23_g {α : Type} (G3 : T0 α) (n : Nat) : GenF (α := α) Try.prog Try.f23 S1 (h23_x G3 n) n (h23_b G3) := by intro _ _; kernel_rfl
theorem h23_good {α : Type} : ∀ n, GoodFn (α := α) Try.prog 23 (byShape S1.sh (callS S1 spec_l01From n)) := good_of Try.func23 (by kernel_rfl) (by kernel_rfl) (by kernel_rfl) eqs_ok (fun n => h23_g spec_l01From_l3 n) (by delta h23_b spec_l01From; rfl) allN (allC (loop_fine (by kernel_rfl) (fun n => by delta h23_b3; funext _ _ _ _ _ _; exact (spec_l01From_l3.eq_2 ..).symm) (fun n => h23_g3 spec_l01From_l3 n)) allN)

/-! loop.example/g01297/spec.l01Next -/
abbrev h28_x {α : Type}  : Nat → Ctx α := ctxS M eqs jt0 [] []
def h28_b {α : Type}  (_ : Nat) (s : List Int) (s1 : Int) (s2 : Int) (n_ : Int) (r0 : Int → Int → Int → Option α) : Option α :=
  bif decide (n_ < 1) then
    r0 0 s1 s2
  else
  bif decide (s1 < (((List.length s) : Nat) : Int)) then
    bif (decide (0 ≤ s1) && decide (s1 < (((List.length s) : Nat) : Int))) then
      (s[s1.toNat]?).bind fun e_ =>
      bif decide (n_ = 0) then
        none
      else
        r0 (Int.tmod (w64 ((w64 (IntKind.wrap .u64 ((BitVec.ofInt 64 (Int.fdiv (IntKind.wrap .u64 ((IntKind.wrap .u64 (s2 * 6364136223846793005)) + 1442695040888963407)) (2 ^ 31)) &&& BitVec.ofInt 64 1073741823).toNat))) + (w64 e_))) n_) (w64 (s1 + 1)) (IntKind.wrap .u64 ((IntKind.wrap .u64 (s2 * 6364136223846793005)) + 1442695040888963407))
    else
      none
  else
  bif decide (n_ = 0) then
    none
  else
    r0 (Int.tmod (w64 (IntKind.wrap .u64 ((BitVec.ofInt 64 (Int.fdiv (IntKind.wrap .u64 ((IntKind.wrap .u64 (s2 * 6364136223846793005)) + 1442695040888963407)) (2 ^ 31)) &&& BitVec.ofInt 64 1073741823).toNat))) n_) s1 (IntKind.wrap .u64 ((IntKind.wrap .u64 (s2 * 6364136223846793005)) + 1442695040888963407))
theorem h28_g {α : Type}  (n : Nat) : GenF (α := α) Try.prog Try.f28 S2 (h28_x n) n (h28_b) := by intro _ _ _ _ _; kernel_rfl
theorem h28_good {α : Type} : ∀ n, GoodFn (α := α) Try.prog 28 (byShape S2.sh (callS S2 spec_l01Next n)) := good_of Try.func28 (by kernel_rfl) (by kernel_rfl) (by kernel_rfl) eqs_ok (fun n => h28_g n) (by delta h28_b spec_l01Next; rfl) allN allN

/-! loop.example/g01297/spec.l01Pick -/
abbrev h33_x {α : Type} (F0 : T1 α) : Nat → Ctx α := ctxS M eqs jt0 [⟨28, S2, F0⟩] []
def h33_b {α : Type} (F0 : T1 α) (k : Nat) (s : List Int) (s1 : Int) (s2 : Int) (list : List Int) (r0 : Int → Int → Int → Option α) : Option α :=
  F0 k s s1 s2 (((List.length list) : Nat) : Int) fun v v1 v2 =>
  bif (decide (0 ≤ v) && decide (v < (((List.length list) : Nat) : Int))) then
    (list[v.toNat]?).bind fun e_ =>
    r0 e_ v1 v2
  else
    none
theorem h33_g {α : Type} (F0 : T1 α) (n : Nat) : GenF (α := α) Try.prog Try.f33 S3 (h33_x F0 n) n (h33_b F0) := by intro _ _ _ _ _; kernel_rfl
theorem h33_good {α : Type} : ∀ n, GoodFn (α := α) Try.prog 33 (byShape S3.sh (callS S3 spec_l01Pick n)) := good_of Try.func33 (by kernel_rfl) (by kernel_rfl) (by kernel_rfl) eqs_ok (fun n => h33_g spec_l01Next n) (by delta h33_b spec_l01Pick; rfl) (allC h28_good allN) allN

/-! loop.example/g01297/spec.l01DrawPoint -/
abbrev h39_x {α : Type} (F0 : T1 α) : Nat → Ctx α := ctxS M eqs jt0 [⟨28, S2, F0⟩] []
def h39_b {α : Type} (F0 : T1 α) (k : Nat) (s : List Int) (s1 : Int) (s2 : Int) (most : Int) (r0 : Int → Int → Int → Int → Option α) : Option α :=
  F0 k s s1 s2 (w64 ((w64 (2 * most)) + 1)) fun v v1 v2 =>
  F0 k s v1 v2 (w64 ((w64 (2 * most)) + 1)) fun v3 v4 v5 =>
  r0 (w64 (v - most)) (w64 (v3 - most)) v4 v5
theorem h39_g {α : Type} (F0 : T1 α) (n : Nat) : GenF (α := α) Try.prog Try.f39 S4 (h39_x F0 n) n (h39_b F0) := by intro _ _ _ _ _; kernel_rfl
theorem h39_good {α : Type} : ∀ n, GoodFn (α := α) Try.prog 39 (byShape S4.sh (callS S4 spec_l01DrawPoint n)) := good_of Try.func39 (by kernel_rfl) (by kernel_rfl) (by kernel_rfl) eqs_ok (fun n => h39_g spec_l01Next n) (by delta h39_b spec_l01DrawPoint; rfl) (allC h28_good allN) allN

/-! loop.example/g01297/spec.l01Plus -/
abbrev h40_x {α : Type}  : Nat → Ctx α := ctxS M eqs jt0 [] []
def h40_b {α : Type}  (_ : Nat) (a : Int) (a1 : Int) (b_ : Int) (b_1 : Int) (k_ : Int) (r0 : Int → Int → Option α) : Option α :=
  r0 (w64 (a + (w64 (k_ * b_)))) (w64 (a1 + (w64 (k_ * b_1))))
theorem h40_g {α : Type}  (n : Nat) : GenF (α := α) Try.prog Try.f40 S5 (h40_x n) n (h40_b) := by intro _ _ _ _ _ _; kernel_rfl
theorem h40_good {α : Type} : ∀ n, GoodFn (α := α) Try.prog 40 (byShape S5.sh (callS S5 spec_l01Plus n)) := good_of Try.func40 (by kernel_rfl) (by kernel_rfl) (by kernel_rfl) eqs_ok (fun n => h40_g n) (by delta h40_b spec_l01Plus; rfl) allN allN

/-! loop.example/g01297/spec.l01Det -/
abbrev h63_x {α : Type}  : Nat → Ctx α := ctxS M eqs jt0 [] []
def h63_b {α : Type}  (_ : Nat) (a : Int) (a1 : Int) (b_ : Int) (b_1 : Int) (r0 : Int → Option α) : Option α :=
  r0 (w64 ((w64 (a * b_1)) - (w64 (a1 * b_))))
theorem h63_g {α : Type}  (n : Nat) : GenF (α := α) Try.prog Try.f63 S6 (h63_x n) n (h63_b) := by intro _ _ _ _ _; kernel_rfl
theorem h63_good {α : Type} : ∀ n, GoodFn (α := α) Try.prog 63 (byShape S6.sh (callS S6 spec_l01Det n)) := good_of Try.func63 (by kernel_rfl) (by kernel_rfl) (by kernel_rfl) eqs_ok (fun n => h63_g n) (by delta h63_b spec_l01Det; rfl) allN allN

/-! loop.example/g01297/spec.l01Area -/
abbrev h51_x {α : Type} (F0 : T2 α) (F1 : T3 α) : Nat → Ctx α := ctxS M eqs jt0 [⟨40, S5, F0⟩, ⟨63, S6, F1⟩] []
def h51_b {α : Type} (F0 : T2 α) (F1 : T3 α) (k : Nat) (a : Int) (a1 : Int) (b_ : Int) (b_1 : Int) (c : Int) (c1 : Int) (r0 : Int → Option α) : Option α :=
  F0 k b_ b_1 a a1 (-1) fun v v1 =>
  F0 k c c1 a a1 (-1) fun v2 v3 =>
  F1 k v v1 v2 v3 fun v4 =>
  r0 (max v4 (w64 (0 - v4)))
theorem h51_g {α : Type} (F0 : T2 α) (F1 : T3 α) (n : Nat) : GenF (α := α) Try.prog Try.f51 S7 (h51_x F0 F1 n) n (h51_b F0 F1) := by intro _ _ _ _ _ _ _; kernel_rfl
theorem h51_good {α : Type} : ∀ n, GoodFn (α := α) Try.prog 51 (byShape S7.sh (callS S7 spec_l01Area n)) := good_of Try.func51 (by kernel_rfl) (by kernel_rfl) (by kernel_rfl) eqs_ok (fun n => h51_g spec_l01Plus spec_l01Det n) (by delta h51_b spec_l01Area; rfl) (allC h40_good (allC h63_good allN)) allN

/-! loop.example/g01297/spec.l04Draw -/
abbrev h48_x {α : Type} (F0 : T4 α) (F1 : T5 α) (F2 : T6 α) (F3 : T2 α) : Nat → Ctx α := ctxS M eqs jt0 [⟨33, S3, F0⟩, ⟨39, S4, F1⟩, ⟨51, S7, F2⟩, ⟨40, S5, F3⟩] []
def h48_b {α : Type} (F0 : T4 α) (F1 : T5 α) (F2 : T6 α) (F3 : T2 α) (k : Nat) (s : List Int) (s1 : Int) (s2 : Int) (r0 : Int → Int → Int → Int → Int → Int → Int → Int → Option α) : Option α :=
  F0 k s s1 s2 [2, 4, 4, 8, 20, 1000] fun v v1 v2 =>
  F1 k s v1 v2 v fun v3 v4 v5 v6 =>
  F1 k s v5 v6 v fun v7 v8 v9 v10 =>
  F1 k s v9 v10 v fun v11 v12 v13 v14 =>
  F2 k v3 v4 v7 v8 v11 v12 fun v15 =>
  bif decide (v15 = 0) then
    F0 k s v13 v14 [1, (-1)] fun v16 v17 v18 =>
    F3 k v3 v4 1 0 v16 fun v19 v20 =>
    F0 k s v17 v18 [1, (-1), 2] fun v21 v22 v23 =>
    F3 k v3 v4 0 1 v21 fun v24 v25 =>
    r0 v3 v4 v19 v20 v24 v25 v22 v23
  else
    r0 v3 v4 v7 v8 v11 v12 v13 v14
theorem h48_g {α : Type} (F0 : T4 α) (F1 : T5 α) (F2 : T6 α) (F3 : T2 α) (n : Nat) : GenF (α := α) Try.prog Try.f48 S8 (h48_x F0 F1 F2 F3 n) n (h48_b F0 F1 F2 F3) := by intro _ _ _ _; kernel_rfl
theorem h48_good {α : Type} : ∀ n, GoodFn (α := α) Try.prog 48 (byShape S8.sh (callS S8 spec_l04Draw n)) := good_of Try.func48 (by kernel_rfl) (by kernel_rfl) (by kernel_rfl) eqs_ok (fun n => h48_g spec_l01Pick spec_l01DrawPoint spec_l01Area spec_l01Plus n) (by delta h48_b spec_l04Draw; rfl) (allC h33_good (allC h39_good (allC h51_good (allC h40_good allN)))) allN

/-! loop.example/g01297/spec.l04Spoil -/
abbrev h22_x {α : Type} (F0 : T7 α) (F1 : T1 α) (F2 : T4 α) : Nat → Ctx α := ctxS M eqs jt0 [⟨48, S8, F0⟩, ⟨28, S2, F1⟩, ⟨33, S3, F2⟩] []
def h22_b {α : Type} (F0 : T7 α) (F1 : T1 α) (F2 : T4 α) (k : Nat) (s : List Int) (s1 : Int) (s2 : Int) (r0 : Int → Int → Int → Int → Int → Int → Int → Int → Option α) : Option α :=
  F0 k s s1 s2 fun v v1 v2 v3 v4 v5 v6 v7 =>
  F1 k s v6 v7 40 fun v8 v9 v10 =>
  bif decide (v8 = 0) then
    F1 k s v9 v10 2 fun v11 v12 v13 =>
    bif (decide (0 ≤ v11) && decide (v11 < 3)) then
      ([v, v1, v2, v3, v4, v5][(v11.toNat * 2)]?).bind fun e_ =>
      ([v, v1, v2, v3, v4, v5][((v11.toNat * 2) + 1)]?).bind fun e_1 =>
      r0 v v1 v2 v3 e_ e_1 v12 v13
    else
      none
  else
  bif decide (v8 = 1) then
    F1 k s v9 v10 3 fun v14 v15 v16 =>
    bif (decide (0 ≤ v14) && decide (v14 < 3)) then
      F1 k s v15 v16 2 fun v17 v18 v19 =>
      F2 k s v18 v19 [1001, (-1001), 1000] fun v20 v21 v22 =>
      bif (decide (0 ≤ v17) && decide (v17 < 2)) then
        ([v, v1, v2, v3, v4, v5][(moved (v14.toNat * 2) v17.toNat 1)]?).bind fun _ =>
        ((List.set [v, v1, v2, v3, v4, v5] (moved (v14.toNat * 2) v17.toNat 1) v20)[0]?).bind fun e_2 =>
        ((List.set [v, v1, v2, v3, v4, v5] (moved (v14.toNat * 2) v17.toNat 1) v20)[1]?).bind fun e_3 =>
        ((List.set [v, v1, v2, v3, v4, v5] (moved (v14.toNat * 2) v17.toNat 1) v20)[2]?).bind fun e_4 =>
        ((List.set [v, v1, v2, v3, v4, v5] (moved (v14.toNat * 2) v17.toNat 1) v20)[3]?).bind fun e_5 =>
        ((List.set [v, v1, v2, v3, v4, v5] (moved (v14.toNat * 2) v17.toNat 1) v20)[4]?).bind fun e_6 =>
        ((List.set [v, v1, v2, v3, v4, v5] (moved (v14.toNat * 2) v17.toNat 1) v20)[5]?).bind fun e_7 =>
        r0 e_2 e_3 e_4 e_5 e_6 e_7 v21 v22
      else
        none
    else
      none
  else
    r0 v v1 v2 v3 v4 v5 v9 v10
theorem h22_g {α : Type} (F0 : T7 α) (F1 : T1 α) (F2 : T4 α) (n : Nat) : GenF (α := α) Try.prog Try.f22 S8 (h22_x F0 F1 F2 n) n (h22_b F0 F1 F2) := by intro _ _ _ _; kernel_rfl
theorem h22_good {α : Type} : ∀ n, GoodFn (α := α) Try.prog 22 (byShape S8.sh (callS S8 spec_l04Spoil n)) := good_of Try.func22 (by kernel_rfl) (by kernel_rfl) (by kernel_rfl) eqs_ok (fun n => h22_g spec_l04Draw spec_l01Next spec_l01Pick n) (by delta h22_b spec_l04Spoil; rfl) (allC h48_good (allC h28_good (allC h33_good allN))) allN

/-! loop.example/g01297/spec.DrawNormalShape -/
abbrev h5_x {α : Type} (F0 : T8 α) (F1 : T7 α) : Nat → Ctx α := ctxS M eqs jt0 [⟨23, S1, F0⟩, ⟨22, S8, F1⟩] []
def h5_b {α : Type} (F0 : T8 α) (F1 : T7 α) (k : Nat) (code : List Int) (r0 : Int → Int → Int → Int → Int → Int → Option α) : Option α :=
  F0 k code fun v v1 =>
  F1 k code v v1 fun v2 v3 v4 v5 v6 v7 _ _ =>
  r0 v2 v3 v4 v5 v6 v7
theorem h5_g {α : Type} (F0 : T8 α) (F1 : T7 α) (n : Nat) : GenF (α := α) Try.prog Try.f5 S9 (h5_x F0 F1 n) n (h5_b F0 F1) := by intro _ _; kernel_rfl
theorem h5_good {α : Type} : ∀ n, GoodFn (α := α) Try.prog 5 (byShape S9.sh (callS S9 spec_DrawNormalShape n)) := good_of Try.func5 (by kernel_rfl) (by kernel_rfl) (by kernel_rfl) eqs_ok (fun n => h5_g spec_l01From spec_l04Spoil n) (by delta h5_b spec_DrawNormalShape; rfl) (allC h23_good (allC h22_good allN)) allN

/-! loop.example/g01297/impl.in -/
abbrev h29_x {α : Type}  : Nat → Ctx α := ctxS M eqs jt0 [] []
def h29_b {α : Type}  (_ : Nat) (n_ : Int) (low : Int) (high : Int) (r0 : Bool → Option α) : Option α :=
  bif decide (low ≤ n_) then
    r0 (decide (n_ ≤ high))
  else
    r0 false
theorem h29_g {α : Type}  (n : Nat) : GenF (α := α) Try.prog Try.f29 S10 (h29_x n) n (h29_b) := by intro _ _ _ _; kernel_rfl
theorem h29_good {α : Type} : ∀ n, GoodFn (α := α) Try.prog 29 (byShape S10.sh (callS S10 impl_in n)) := good_of Try.func29 (by kernel_rfl) (by kernel_rfl) (by kernel_rfl) eqs_ok (fun n => h29_g n) (by delta h29_b impl_in; rfl) allN allN

/-! loop.example/g01297/impl.small -/
abbrev h49_x {α : Type} (F0 : T9 α) : Nat → Ctx α := ctxS M eqs jt0 [⟨29, S10, F0⟩] []
def h49_b {α : Type} (F0 : T9 α) (k : Nat) (a : Int) (a1 : Int) (r0 : Bool → Option α) : Option α :=
  F0 k a (-1000) 1000 fun v =>
  bif v then
    F0 k a1 (-1000) 1000 fun v1 =>
    r0 v1
  else
    r0 false
theorem h49_g {α : Type} (F0 : T9 α) (n : Nat) : GenF (α := α) Try.prog Try.f49 S11 (h49_x F0 n) n (h49_b F0) := by intro _ _ _; kernel_rfl
theorem h49_good {α : Type} : ∀ n, GoodFn (α := α) Try.prog 49 (byShape S11.sh (callS S11 impl_small n)) := good_of Try.func49 (by kernel_rfl) (by kernel_rfl) (by kernel_rfl) eqs_ok (fun n => h49_g impl_in n) (by delta h49_b impl_small; rfl) (allC h29_good allN) allN

/-! (loop.example/g01297/impl.Point).plus -/
abbrev h87_x {α : Type}  : Nat → Ctx α := ctxS M eqs jt0 [] []
def h87_b {α : Type}  (_ : Nat) (a : Int) (a1 : Int) (b_ : Int) (b_1 : Int) (k_ : Int) (r0 : Int → Int → Option α) : Option α :=
  r0 (w64 (a + (w64 (k_ * b_)))) (w64 (a1 + (w64 (k_ * b_1))))
theorem h87_g {α : Type}  (n : Nat) : GenF (α := α) Try.prog Try.f87 S5 (h87_x n) n (h87_b) := by intro _ _ _ _ _ _; kernel_rfl
theorem h87_good {α : Type} : ∀ n, GoodFn (α := α) Try.prog 87 (byShape S5.sh (callS S5 impl_Point_plus n)) := good_of Try.func87 (by kernel_rfl) (by kernel_rfl) (by kernel_rfl) eqs_ok (fun n => h87_g n) (by delta h87_b impl_Point_plus; rfl) allN allN

/-! (loop.example/g01297/impl.Point).less -/
abbrev h71_x {α : Type} (F0 : T2 α) : Nat → Ctx α := ctxS M eqs jt0 [⟨87, S5, F0⟩] []
def h71_b {α : Type} (F0 : T2 α) (k : Nat) (a : Int) (a1 : Int) (b_ : Int) (b_1 : Int) (r0 : Int → Int → Option α) : Option α :=
  F0 k a a1 b_ b_1 (-1) fun v v1 =>
  r0 v v1
theorem h71_g {α : Type} (F0 : T2 α) (n : Nat) : GenF (α := α) Try.prog Try.f71 S12 (h71_x F0 n) n (h71_b F0) := by intro _ _ _ _ _; kernel_rfl
theorem h71_good {α : Type} : ∀ n, GoodFn (α := α) Try.prog 71 (byShape S12.sh (callS S12 impl_Point_less n)) := good_of Try.func71 (by kernel_rfl) (by kernel_rfl) (by kernel_rfl) eqs_ok (fun n => h71_g impl_Point_plus n) (by delta h71_b impl_Point_less; rfl) (allC h87_good allN) allN

/-! loop.example/g01297/impl.det -/
abbrev h56_x {α : Type}  : Nat → Ctx α := ctxS M eqs jt0 [] []
def h56_b {α : Type}  (_ : Nat) (a : Int) (a1 : Int) (b_ : Int) (b_1 : Int) (r0 : Int → Option α) : Option α :=
  r0 (w64 ((w64 (a * b_1)) - (w64 (a1 * b_))))
theorem h56_g {α : Type}  (n : Nat) : GenF (α := α) Try.prog Try.f56 S6 (h56_x n) n (h56_b) := by intro _ _ _ _ _; kernel_rfl
theorem h56_good {α : Type} : ∀ n, GoodFn (α := α) Try.prog 56 (byShape S6.sh (callS S6 impl_det n)) := good_of Try.func56 (by kernel_rfl) (by kernel_rfl) (by kernel_rfl) eqs_ok (fun n => h56_g n) (by delta h56_b impl_det; rfl) allN allN

/-! loop.example/g01297/impl.size -/
abbrev h70_x {α : Type}  : Nat → Ctx α := ctxS M eqs jt0 [] []
def h70_b {α : Type}  (_ : Nat) (n_ : Int) (r0 : Int → Option α) : Option α :=
  r0 (max n_ (w64 (0 - n_)))
theorem h70_g {α : Type}  (n : Nat) : GenF (α := α) Try.prog Try.f70 S13 (h70_x n) n (h70_b) := by intro _ _; kernel_rfl
theorem h70_good {α : Type} : ∀ n, GoodFn (α := α) Try.prog 70 (byShape S13.sh (callS S13 impl_size n)) := good_of Try.func70 (by kernel_rfl) (by kernel_rfl) (by kernel_rfl) eqs_ok (fun n => h70_g n) (by delta h70_b impl_size; rfl) allN allN

/-! loop.example/g01297/impl.area -/
abbrev h50_x {α : Type} (F0 : T10 α) (F1 : T3 α) (F2 : T11 α) : Nat → Ctx α := ctxS M eqs jt0 [⟨71, S12, F0⟩, ⟨56, S6, F1⟩, ⟨70, S13, F2⟩] []
def h50_b {α : Type} (F0 : T10 α) (F1 : T3 α) (F2 : T11 α) (k : Nat) (a : Int) (a1 : Int) (b_ : Int) (b_1 : Int) (c : Int) (c1 : Int) (r0 : Int → Option α) : Option α :=
  F0 k b_ b_1 a a1 fun v v1 =>
  F0 k c c1 a a1 fun v2 v3 =>
  F1 k v v1 v2 v3 fun v4 =>
  F2 k v4 fun v5 =>
  r0 v5
theorem h50_g {α : Type} (F0 : T10 α) (F1 : T3 α) (F2 : T11 α) (n : Nat) : GenF (α := α) Try.prog Try.f50 S7 (h50_x F0 F1 F2 n) n (h50_b F0 F1 F2) := by intro _ _ _ _ _ _ _; kernel_rfl
theorem h50_good {α : Type} : ∀ n, GoodFn (α := α) Try.prog 50 (byShape S7.sh (callS S7 impl_area n)) := good_of Try.func50 (by kernel_rfl) (by kernel_rfl) (by kernel_rfl) eqs_ok (fun n => h50_g impl_Point_less impl_det impl_size n) (by delta h50_b impl_area; rfl) (allC h71_good (allC h56_good (allC h70_good allN))) allN

/-! loop.example/g01297/impl.IsTriangle -/
abbrev h24_x {α : Type} (F0 : T12 α) (F1 : T6 α) : Nat → Ctx α := ctxS M eqs jt0 [⟨49, S11, F0⟩, ⟨50, S7, F1⟩] []
def h24_b {α : Type} (F0 : T12 α) (F1 : T6 α) (k : Nat) (t : Int) (t1 : Int) (t2 : Int) (t3 : Int) (t4 : Int) (t5 : Int) (r0 : Bool → Option α) : Option α :=
  F0 k t t1 fun v =>
  bif v then
    F0 k t2 t3 fun v1 =>
    bif v1 then
      F0 k t4 t5 fun v2 =>
      bif v2 then
        F1 k t t1 t2 t3 t4 t5 fun v3 =>
        r0 (!decide (v3 = 0))
      else
        r0 false
    else
      r0 false
  else
    r0 false
theorem h24_g {α : Type} (F0 : T12 α) (F1 : T6 α) (n : Nat) : GenF (α := α) Try.prog Try.f24 S14 (h24_x F0 F1 n) n (h24_b F0 F1) := by intro _ _ _ _ _ _ _; kernel_rfl
theorem h24_good {α : Type} : ∀ n, GoodFn (α := α) Try.prog 24 (byShape S14.sh (callS S14 impl_IsTriangle n)) := good_of Try.func24 (by kernel_rfl) (by kernel_rfl) (by kernel_rfl) eqs_ok (fun n => h24_g impl_small impl_area n) (by delta h24_b impl_IsTriangle; rfl) (allC h49_good (allC h50_good allN)) allN

/-! (loop.example/g01297/impl.Triangle).side -/
abbrev h53_x {α : Type} (F0 : T10 α) : Nat → Ctx α := ctxS M eqs jt0 [⟨71, S12, F0⟩] []
def h53_b {α : Type} (F0 : T10 α) (k : Nat) (t : Int) (t1 : Int) (t2 : Int) (t3 : Int) (t4 : Int) (t5 : Int) (i : Int) (k_ : Int) (r0 : Int → Int → Option α) : Option α :=
  bif (decide (0 ≤ k_) && decide (k_ < 3)) then
    ([t, t1, t2, t3, t4, t5][(k_.toNat * 2)]?).bind fun e_ =>
    ([t, t1, t2, t3, t4, t5][((k_.toNat * 2) + 1)]?).bind fun e_1 =>
    bif (decide (0 ≤ i) && decide (i < 3)) then
      ([t, t1, t2, t3, t4, t5][(i.toNat * 2)]?).bind fun e_2 =>
      ([t, t1, t2, t3, t4, t5][((i.toNat * 2) + 1)]?).bind fun e_3 =>
      F0 k e_ e_1 e_2 e_3 fun v v1 =>
      r0 v v1
    else
      none
  else
    none
theorem h53_g {α : Type} (F0 : T10 α) (n : Nat) : GenF (α := α) Try.prog Try.f53 S15 (h53_x F0 n) n (h53_b F0) := by intro _ _ _ _ _ _ _ _ _; kernel_rfl
theorem h53_good {α : Type} : ∀ n, GoodFn (α := α) Try.prog 53 (byShape S15.sh (callS S15 impl_Triangle_side n)) := good_of Try.func53 (by kernel_rfl) (by kernel_rfl) (by kernel_rfl) eqs_ok (fun n => h53_g impl_Point_less n) (by delta h53_b impl_Triangle_side; rfl) (allC h71_good allN) allN

/-! loop.example/g01297/impl.gcd -/
def h72_t1 : Tpl := ⟨(.int .i64 :: (.int .i64 :: (anyN 11 []))), [], [], false⟩
def h72_p1 : PcS := loopS [.int, .int] [0]
abbrev h72_x {α : Type} (F0 : T11 α) (G1 : T13 α) : Nat → Ctx α := ctxS M eqs jt0 [⟨70, S13, F0⟩] [lpT 1 h72_t1 h72_p1 R5 G1]
def h72_b1 {α : Type} (G1 : T13 α) (k : Nat) (a1 : Int) (b_1 : Int) (b0 : Int → Int → Option α) (r0 : Int → Option α) : Option α :=
  bif (!decide (b_1 = 0)) then
    bif decide (b_1 = 0) then
      none
    else
      G1 k b_1 (Int.tmod a1 b_1) b0 r0
  else
    b0 a1 b_1
theorem h72_g1 {α : Type} (F0 : T11 α) (G1 : T13 α) (n : Nat) : GenL (α := α) Try.prog Try.f72 S16 (h72_x F0 G1 n) 1 h72_t1 h72_p1 n G1 (h72_b1 G1) := by intro _ _ _ _; kernel_rfl
def h72_b {α : Type} (F0 : T11 α) (G1 : T13 α) (k : Nat) (a : Int) (b_ : Int) (r0 : Int → Option α) : Option α :=
  G1 k a b_
    (fun a2 _ =>
      F0 k a2 fun v =>
      r0 v)
    r0
theorem h72_g {α : Type} (F0 : T11 α) (G1 : T13 α) (n : Nat) : GenF (α := α) Try.prog Try.f72 S16 (h72_x F0 G1 n) n (h72_b F0 G1) := by intro _ _ _; kernel_rfl
theorem h72_good {α : Type} : ∀ n, GoodFn (α := α) Try.prog 72 (byShape S16.sh (callS S16 impl_gcd n)) := good_of Try.func72 (by kernel_rfl) (by kernel_rfl) (by kernel_rfl) eqs_ok (fun n => h72_g impl_size impl_gcd_l1 n) (by delta h72_b impl_gcd; rfl) (allC h70_good allN) (allC (loop_fine (by kernel_rfl) (fun n => by delta h72_b1; funext _ _ _ _; exact (impl_gcd_l1.eq_2 ..).symm) (fun n => h72_g1 impl_size impl_gcd_l1 n)) allN)

/-! (loop.example/g01297/impl.Point).length -/
abbrev h54_x {α : Type} (F0 : T14 α) : Nat → Ctx α := ctxS M eqs jt0 [⟨72, S16, F0⟩] []
def h54_b {α : Type} (F0 : T14 α) (k : Nat) (a : Int) (a1 : Int) (r0 : Int → Option α) : Option α :=
  F0 k a a1 fun v =>
  r0 v
theorem h54_g {α : Type} (F0 : T14 α) (n : Nat) : GenF (α := α) Try.prog Try.f54 S17 (h54_x F0 n) n (h54_b F0) := by intro _ _ _; kernel_rfl
theorem h54_good {α : Type} : ∀ n, GoodFn (α := α) Try.prog 54 (byShape S17.sh (callS S17 impl_Point_length n)) := good_of Try.func54 (by kernel_rfl) (by kernel_rfl) (by kernel_rfl) eqs_ok (fun n => h54_g impl_gcd n) (by delta h54_b impl_Point_length; rfl) (allC h72_good allN) allN

/-! (loop.example/g01297/impl.Triangle).area -/
abbrev h46_x {α : Type} (F0 : T6 α) : Nat → Ctx α := ctxS M eqs jt0 [⟨50, S7, F0⟩] []
def h46_b {α : Type} (F0 : T6 α) (k : Nat) (t : Int) (t1 : Int) (t2 : Int) (t3 : Int) (t4 : Int) (t5 : Int) (r0 : Int → Option α) : Option α :=
  F0 k t t1 t2 t3 t4 t5 fun v =>
  r0 v
theorem h46_g {α : Type} (F0 : T6 α) (n : Nat) : GenF (α := α) Try.prog Try.f46 S18 (h46_x F0 n) n (h46_b F0) := by intro _ _ _ _ _ _ _; kernel_rfl
theorem h46_good {α : Type} : ∀ n, GoodFn (α := α) Try.prog 46 (byShape S18.sh (callS S18 impl_Triangle_area n)) := good_of Try.func46 (by kernel_rfl) (by kernel_rfl) (by kernel_rfl) eqs_ok (fun n => h46_g impl_area n) (by delta h46_b impl_Triangle_area; rfl) (allC h50_good allN) allN

/-! (loop.example/g01297/impl.Point).primitive -/
abbrev h57_x {α : Type} (F0 : T14 α) : Nat → Ctx α := ctxS M eqs jt0 [⟨54, S17, F0⟩] []
def h57_b {α : Type} (F0 : T14 α) (k : Nat) (a : Int) (a1 : Int) (r0 : Int → Int → Option α) : Option α :=
  F0 k a a1 fun v =>
  bif decide (v = 0) then
    none
  else
  bif decide (v = 0) then
    none
  else
    r0 (w64 (Int.tdiv a v)) (w64 (Int.tdiv a1 v))
theorem h57_g {α : Type} (F0 : T14 α) (n : Nat) : GenF (α := α) Try.prog Try.f57 S19 (h57_x F0 n) n (h57_b F0) := by intro _ _ _; kernel_rfl
theorem h57_good {α : Type} : ∀ n, GoodFn (α := α) Try.prog 57 (byShape S19.sh (callS S19 impl_Point_primitive n)) := good_of Try.func57 (by kernel_rfl) (by kernel_rfl) (by kernel_rfl) eqs_ok (fun n => h57_g impl_Point_length n) (by delta h57_b impl_Point_primitive; rfl) (allC h54_good allN) allN

/-! loop.example/g01297/impl.floor -/
abbrev h73_x {α : Type}  : Nat → Ctx α := ctxS M eqs jt0 [] []
def h73_b {α : Type}  (_ : Nat) (a : Int) (b_ : Int) (r0 : Int → Option α) : Option α :=
  bif decide (b_ = 0) then
    none
  else
  bif decide (b_ = 0) then
    none
  else
  bif (!decide ((Int.tmod a b_) = 0)) then
    bif (!(decide (a < 0) == decide (b_ < 0))) then
      r0 (w64 ((w64 (Int.tdiv a b_)) - 1))
    else
      r0 (w64 (Int.tdiv a b_))
  else
    r0 (w64 (Int.tdiv a b_))
theorem h73_g {α : Type}  (n : Nat) : GenF (α := α) Try.prog Try.f73 S16 (h73_x n) n (h73_b) := by intro _ _ _; kernel_rfl
theorem h73_good {α : Type} : ∀ n, GoodFn (α := α) Try.prog 73 (byShape S16.sh (callS S16 impl_floor n)) := good_of Try.func73 (by kernel_rfl) (by kernel_rfl) (by kernel_rfl) eqs_ok (fun n => h73_g n) (by delta h73_b impl_floor; rfl) allN allN

/-! loop.example/g01297/impl.mod -/
abbrev h55_x {α : Type} (F0 : T14 α) : Nat → Ctx α := ctxS M eqs jt0 [⟨73, S16, F0⟩] []
def h55_b {α : Type} (F0 : T14 α) (k : Nat) (a : Int) (b_ : Int) (r0 : Int → Option α) : Option α :=
  F0 k a b_ fun v =>
  r0 (w64 (a - (w64 (b_ * v))))
theorem h55_g {α : Type} (F0 : T14 α) (n : Nat) : GenF (α := α) Try.prog Try.f55 S16 (h55_x F0 n) n (h55_b F0) := by intro _ _ _; kernel_rfl
theorem h55_good {α : Type} : ∀ n, GoodFn (α := α) Try.prog 55 (byShape S16.sh (callS S16 impl_mod n)) := good_of Try.func55 (by kernel_rfl) (by kernel_rfl) (by kernel_rfl) eqs_ok (fun n => h55_g impl_floor n) (by delta h55_b impl_mod; rfl) (allC h73_good allN) allN

/-! loop.example/g01297/impl.bezout -/
def h74_t2 : Tpl := ⟨(.any :: (.int .i64 :: (.any :: (.any :: (.any :: (.int .i64 :: (.int .i64 :: (.int .i64 :: (.int .i64 :: (anyN 25 [])))))))))), [], [], false⟩
def h74_p2 : PcS := loopS [.int, .int, .int, .int, .int] [0]
abbrev h74_x {α : Type} (F0 : T14 α) (G2 : T15 α) : Nat → Ctx α := ctxS M eqs jt0 [⟨55, S16, F0⟩] [lpT 2 h74_t2 h74_p2 R5 G2]
def h74_b2 {α : Type} (G2 : T15 α) (k : Nat) (m1 : Int) (r_ : Int) (s : Int) (x : Int) (y : Int) (b0 : Int → Int → Int → Int → Int → Option α) (r0 : Int → Option α) : Option α :=
  bif (!decide (s = 0)) then
    bif decide (s = 0) then
      none
    else
      G2 k m1 s (w64 (r_ - (w64 ((w64 (Int.tdiv r_ s)) * s)))) y (w64 (x - (w64 ((w64 (Int.tdiv r_ s)) * y)))) b0 r0
  else
    b0 m1 r_ s x y
theorem h74_g2 {α : Type} (F0 : T14 α) (G2 : T15 α) (n : Nat) : GenL (α := α) Try.prog Try.f74 S16 (h74_x F0 G2 n) 2 h74_t2 h74_p2 n G2 (h74_b2 G2) := by intro _ _ _ _ _ _ _; kernel_rfl
def h74_b {α : Type} (F0 : T14 α) (G2 : T15 α) (k : Nat) (a : Int) (m : Int) (r0 : Int → Option α) : Option α :=
  F0 k a m fun v =>
  G2 k m v m 1 0
    (fun m2 _ _ x1 _ =>
      F0 k x1 m2 fun v1 =>
      r0 v1)
    r0
theorem h74_g {α : Type} (F0 : T14 α) (G2 : T15 α) (n : Nat) : GenF (α := α) Try.prog Try.f74 S16 (h74_x F0 G2 n) n (h74_b F0 G2) := by intro _ _ _; kernel_rfl
theorem h74_good {α : Type} : ∀ n, GoodFn (α := α) Try.prog 74 (byShape S16.sh (callS S16 impl_bezout n)) := good_of Try.func74 (by kernel_rfl) (by kernel_rfl) (by kernel_rfl) eqs_ok (fun n => h74_g impl_mod impl_bezout_l2 n) (by delta h74_b impl_bezout; rfl) (allC h55_good allN) (allC (loop_fine (by kernel_rfl) (fun n => by delta h74_b2; funext _ _ _ _ _ _ _; exact (impl_bezout_l2.eq_2 ..).symm) (fun n => h74_g2 impl_mod impl_bezout_l2 n)) allN)

/-! (loop.example/g01297/impl.Point).mate -/
abbrev h58_x {α : Type} (F0 : T11 α) (F1 : T14 α) (F2 : T14 α) : Nat → Ctx α := ctxS M eqs jt0 [⟨70, S13, F0⟩, ⟨74, S16, F1⟩, ⟨55, S16, F2⟩] []
def h58_b {α : Type} (F0 : T11 α) (F1 : T14 α) (F2 : T14 α) (k : Nat) (a : Int) (a1 : Int) (r0 : Int → Int → Option α) : Option α :=
  bif decide (a = 0) then
    r0 (w64 (0 - a1)) 0
  else
    F0 k a fun v =>
    F1 k a1 v fun v1 =>
    F0 k a fun v2 =>
    F2 k (w64 (0 - v1)) v2 fun v3 =>
    bif decide (a = 0) then
      none
    else
      r0 v3 (w64 (Int.tdiv (w64 (1 + (w64 (a1 * v3)))) a))
theorem h58_g {α : Type} (F0 : T11 α) (F1 : T14 α) (F2 : T14 α) (n : Nat) : GenF (α := α) Try.prog Try.f58 S19 (h58_x F0 F1 F2 n) n (h58_b F0 F1 F2) := by intro _ _ _; kernel_rfl
theorem h58_good {α : Type} : ∀ n, GoodFn (α := α) Try.prog 58 (byShape S19.sh (callS S19 impl_Point_mate n)) := good_of Try.func58 (by kernel_rfl) (by kernel_rfl) (by kernel_rfl) eqs_ok (fun n => h58_g impl_size impl_bezout impl_mod n) (by delta h58_b impl_Point_mate; rfl) (allC h70_good (allC h74_good (allC h55_good allN))) allN

/-! (loop.example/g01297/impl.Triangle).shape -/
abbrev h30_x {α : Type} (F0 : T16 α) (F1 : T14 α) (F2 : T6 α) (F3 : T17 α) (F4 : T17 α) (F5 : T3 α) (F6 : T14 α) : Nat → Ctx α := ctxS M eqs jt0 [⟨53, S15, F0⟩, ⟨54, S17, F1⟩, ⟨46, S18, F2⟩, ⟨57, S19, F3⟩, ⟨58, S19, F4⟩, ⟨56, S6, F5⟩, ⟨55, S16, F6⟩] []
def h30_b {α : Type} (F0 : T16 α) (F1 : T14 α) (F2 : T6 α) (F3 : T17 α) (F4 : T17 α) (F5 : T3 α) (F6 : T14 α) (k : Nat) (t : Int) (t1 : Int) (t2 : Int) (t3 : Int) (t4 : Int) (t5 : Int) (i : Int) (j : Int) (r0 : Int → Int → Int → Option α) : Option α :=
  F0 k t t1 t2 t3 t4 t5 i j fun v v1 =>
  F0 k t t1 t2 t3 t4 t5 i (w64 ((w64 (3 - i)) - j)) fun v2 v3 =>
  F1 k v v1 fun v4 =>
  F2 k t t1 t2 t3 t4 t5 fun v5 =>
  bif decide (v4 = 0) then
    none
  else
    F3 k v v1 fun v6 v7 =>
    F4 k v6 v7 fun v8 v9 =>
    F5 k v2 v3 v8 v9 fun v10 =>
    F6 k v10 (w64 (Int.tdiv v5 v4)) fun v11 =>
    r0 v4 v11 (w64 (Int.tdiv v5 v4))
theorem h30_g {α : Type} (F0 : T16 α) (F1 : T14 α) (F2 : T6 α) (F3 : T17 α) (F4 : T17 α) (F5 : T3 α) (F6 : T14 α) (n : Nat) : GenF (α := α) Try.prog Try.f30 S20 (h30_x F0 F1 F2 F3 F4 F5 F6 n) n (h30_b F0 F1 F2 F3 F4 F5 F6) := by intro _ _ _ _ _ _ _ _ _; kernel_rfl
theorem h30_good {α : Type} : ∀ n, GoodFn (α := α) Try.prog 30 (byShape S20.sh (callS S20 impl_Triangle_shape n)) := good_of Try.func30 (by kernel_rfl) (by kernel_rfl) (by kernel_rfl) eqs_ok (fun n => h30_g impl_Triangle_side impl_Point_length impl_Triangle_area impl_Point_primitive impl_Point_mate impl_det impl_mod n) (by delta h30_b impl_Triangle_shape; rfl) (allC h53_good (allC h54_good (allC h46_good (allC h57_good (allC h58_good (allC h56_good (allC h55_good allN))))))) allN

/-! cmp.isNaN[int64] -/
abbrev h86_x {α : Type}  : Nat → Ctx α := ctxS M eqs jt0 [] []
def h86_b {α : Type}  (_ : Nat) (x : Int) (r0 : Bool → Option α) : Option α :=
  r0 (!decide (x = x))
theorem h86_g {α : Type}  (n : Nat) : GenF (α := α) Try.prog Try.f86 S21 (h86_x n) n (h86_b) := by intro _ _; kernel_rfl
theorem h86_good {α : Type} : ∀ n, GoodFn (α := α) Try.prog 86 (byShape S21.sh (callS S21 cmp_isNaN_int64 n)) := good_of Try.func86 (by kernel_rfl) (by kernel_rfl) (by kernel_rfl) eqs_ok (fun n => h86_g n) (by delta h86_b cmp_isNaN_int64; rfl) allN allN

/-! cmp.Compare[int64] -/
abbrev h69_x {α : Type} (F0 : T18 α) : Nat → Ctx α := ctxS M eqs jt0 [⟨86, S21, F0⟩] []
def h69_b {α : Type} (F0 : T18 α) (k : Nat) (x : Int) (y : Int) (r0 : Int → Option α) : Option α :=
  F0 k x fun v =>
  F0 k y fun v1 =>
  bif v then
    bif v1 then
      r0 0
    else
      r0 (-1)
  else
  bif v1 then
    r0 1
  else
  bif decide (x < y) then
    r0 (-1)
  else
  bif decide (y < x) then
    r0 1
  else
    r0 0
theorem h69_g {α : Type} (F0 : T18 α) (n : Nat) : GenF (α := α) Try.prog Try.f69 S16 (h69_x F0 n) n (h69_b F0) := by intro _ _ _; kernel_rfl
theorem h69_good {α : Type} : ∀ n, GoodFn (α := α) Try.prog 69 (byShape S16.sh (callS S16 cmp_Compare_int64 n)) := good_of Try.func69 (by kernel_rfl) (by kernel_rfl) (by kernel_rfl) eqs_ok (fun n => h69_g cmp_isNaN_int64 n) (by delta h69_b cmp_Compare_int64; rfl) (allC h86_good allN) allN

/-! cmp.Or[int] -/
def h68_t3 : Tpl := ⟨(.any :: (.any :: (.any :: (.int .i64 :: (.any :: (.any :: (.sl 0 :: (.int .i64 :: (.int .i64 :: (anyN 9 [])))))))))), [(0, .rows 0 3 (.int .i64))], [], false⟩
def h68_p3 : PcS := loopS [.int, .int, .int, .rows (.int .i64)] [0]
abbrev h68_x {α : Type} (G3 : T19 α) : Nat → Ctx α := ctxS M eqs jt0 [] [lpT 3 h68_t3 h68_p3 R5 G3]
def h68_b3 {α : Type} (G3 : T19 α) (k : Nat) (zero : Int) (x : Int) (x1 : Int) (x2 : List Int) (b0 : Int → Int → Int → List Int → Option α) (r0 : Int → Option α) : Option α :=
  bif decide (x1 < x) then
    bif (decide (0 ≤ x1) && decide (x1 < (((List.length x2) : Nat) : Int))) then
      (x2[x1.toNat]?).bind fun e_ =>
      bif (!decide (e_ = zero)) then
        r0 e_
      else
        G3 k zero x (w64 (x1 + 1)) x2 b0 r0
    else
      none
  else
    b0 zero x x1 x2
theorem h68_g3 {α : Type} (G3 : T19 α) (n : Nat) : GenL (α := α) Try.prog Try.f68 S22 (h68_x G3 n) 3 h68_t3 h68_p3 n G3 (h68_b3 G3) := by intro _ _ _ _ _ _; kernel_rfl
def h68_b {α : Type} (G3 : T19 α) (k : Nat) (vals : List Int) (r0 : Int → Option α) : Option α :=
  G3 k 0 (((List.length vals) : Nat) : Int) 0 vals
    (fun zero1 _ _ _ =>
      r0 zero1)
    r0
theorem h68_g {α : Type} (G3 : T19 α) (n : Nat) : GenF (α := α) Try.prog Try.f68 S22 (h68_x G3 n) n (h68_b G3) := by intro _ _; kernel_rfl
theorem h68_good {α : Type} : ∀ n, GoodFn (α := α) Try.prog 68 (byShape S22.sh (callS S22 cmp_Or_int n)) := good_of Try.func68 (by kernel_rfl) (by kernel_rfl) (by kernel_rfl) eqs_ok (fun n => h68_g cmp_Or_int_l3 n) (by delta h68_b cmp_Or_int; rfl) allN (allC (loop_fine (by kernel_rfl) (fun n => by delta h68_b3; funext _ _ _ _ _ _; exact (cmp_Or_int_l3.eq_2 ..).symm) (fun n => h68_g3 cmp_Or_int_l3 n)) allN)

/-! loop.example/g01297/impl.shapeOrder -/
abbrev h43_x {α : Type} (F0 : T14 α) (F1 : T20 α) : Nat → Ctx α := ctxS M eqs jt0 [⟨69, S16, F0⟩, ⟨68, S22, F1⟩] []
def h43_b {α : Type} (F0 : T14 α) (F1 : T20 α) (k : Nat) (a : Int) (a1 : Int) (a2 : Int) (b_ : Int) (b_1 : Int) (b_2 : Int) (r0 : Int → Option α) : Option α :=
  F0 k a b_ fun v =>
  F0 k a1 b_1 fun v1 =>
  F0 k a2 b_2 fun v2 =>
  F1 k [v, v1, v2] fun v3 =>
  r0 v3
theorem h43_g {α : Type} (F0 : T14 α) (F1 : T20 α) (n : Nat) : GenF (α := α) Try.prog Try.f43 S23 (h43_x F0 F1 n) n (h43_b F0 F1) := by intro _ _ _ _ _ _ _; kernel_rfl
theorem h43_good {α : Type} : ∀ n, GoodFn (α := α) Try.prog 43 (byShape S23.sh (callS S23 impl_shapeOrder n)) := good_of Try.func43 (by kernel_rfl) (by kernel_rfl) (by kernel_rfl) eqs_ok (fun n => h43_g cmp_Compare_int64 cmp_Or_int n) (by delta h43_b impl_shapeOrder; rfl) (allC h69_good (allC h68_good allN)) allN

/-! (loop.example/g01297/impl.Triangle).normal -/
def h25_t3 : Tpl := ⟨(.any :: (.ptr 64 0 0 :: (.ptr 128 0 0 :: (.ptr 192 0 0 :: (anyN 4 (.int .i64 :: (anyN 24 []))))))), [(64, .ints 2 27 .i64 6), (128, .ints 2 30 .i64 3), (192, .ints 2 30 .i64 3)], [], false⟩
def h25_p3 : PcS := loopS [.int, .int, .int, .int, .int, .int, .int, .int, .int, .int, .int, .int, .int] [0]
abbrev h25_x {α : Type} (F0 : T21 α) (F1 : T6 α) (G3 : T22 α) : Nat → Ctx α := ctxS M eqs jt0 [⟨30, S20, F0⟩, ⟨43, S23, F1⟩] [lpT 3 h25_t3 h25_p3 R8 G3]
def h25_b3 {α : Type} (F0 : T21 α) (F1 : T6 α) (G3 : T22 α) (k : Nat) (x : Int) (t6 : Int) (t7 : Int) (t8 : Int) (t9 : Int) (t10 : Int) (t11 : Int) (x1 : Int) (x2 : Int) (x3 : Int) (out : Int) (out1 : Int) (out2 : Int) (b0 : Int → Int → Int → Int → Int → Int → Int → Int → Int → Int → Int → Int → Int → Option α) (r0 : Int → Int → Int → Option α) : Option α :=
  bif decide (x < 3) then
    bif (!decide (x = 0)) then
      F0 k t6 t7 t8 t9 t10 t11 x 0 fun v3 v4 v5 =>
      F1 k v3 v4 v5 out out1 out2 fun v6 =>
      bif decide (v6 < 0) then
        F0 k t6 t7 t8 t9 t10 t11 x 0 fun v7 v8 v9 =>
        bif (!decide (x = 1)) then
          F0 k t6 t7 t8 t9 t10 t11 x 1 fun v10 v11 v12 =>
          F1 k v10 v11 v12 v7 v8 v9 fun v13 =>
          bif decide (v13 < 0) then
            F0 k t6 t7 t8 t9 t10 t11 x 1 fun v14 v15 v16 =>
            bif (!decide (x = 2)) then
              F0 k t6 t7 t8 t9 t10 t11 x 2 fun v17 v18 v19 =>
              F1 k v17 v18 v19 v14 v15 v16 fun v20 =>
              bif decide (v20 < 0) then
                F0 k t6 t7 t8 t9 t10 t11 x 2 fun v21 v22 v23 =>
                G3 k (w64 (x + 1)) t6 t7 t8 t9 t10 t11 x1 x2 x3 v21 v22 v23 b0 r0
              else
                G3 k (w64 (x + 1)) t6 t7 t8 t9 t10 t11 x1 x2 x3 v14 v15 v16 b0 r0
            else
              G3 k (w64 (x + 1)) t6 t7 t8 t9 t10 t11 x1 x2 x3 v14 v15 v16 b0 r0
          else
          bif (!decide (x = 2)) then
            F0 k t6 t7 t8 t9 t10 t11 x 2 fun v24 v25 v26 =>
            F1 k v24 v25 v26 v7 v8 v9 fun v27 =>
            bif decide (v27 < 0) then
              F0 k t6 t7 t8 t9 t10 t11 x 2 fun v28 v29 v30 =>
              G3 k (w64 (x + 1)) t6 t7 t8 t9 t10 t11 x1 x2 x3 v28 v29 v30 b0 r0
            else
              G3 k (w64 (x + 1)) t6 t7 t8 t9 t10 t11 x1 x2 x3 v7 v8 v9 b0 r0
          else
            G3 k (w64 (x + 1)) t6 t7 t8 t9 t10 t11 x1 x2 x3 v7 v8 v9 b0 r0
        else
        bif (!decide (x = 2)) then
          F0 k t6 t7 t8 t9 t10 t11 x 2 fun v31 v32 v33 =>
          F1 k v31 v32 v33 v7 v8 v9 fun v34 =>
          bif decide (v34 < 0) then
            F0 k t6 t7 t8 t9 t10 t11 x 2 fun v35 v36 v37 =>
            G3 k (w64 (x + 1)) t6 t7 t8 t9 t10 t11 x1 x2 x3 v35 v36 v37 b0 r0
          else
            G3 k (w64 (x + 1)) t6 t7 t8 t9 t10 t11 x1 x2 x3 v7 v8 v9 b0 r0
        else
          G3 k (w64 (x + 1)) t6 t7 t8 t9 t10 t11 x1 x2 x3 v7 v8 v9 b0 r0
      else
      bif (!decide (x = 1)) then
        F0 k t6 t7 t8 t9 t10 t11 x 1 fun v38 v39 v40 =>
        F1 k v38 v39 v40 out out1 out2 fun v41 =>
        bif decide (v41 < 0) then
          F0 k t6 t7 t8 t9 t10 t11 x 1 fun v42 v43 v44 =>
          bif (!decide (x = 2)) then
            F0 k t6 t7 t8 t9 t10 t11 x 2 fun v45 v46 v47 =>
            F1 k v45 v46 v47 v42 v43 v44 fun v48 =>
            bif decide (v48 < 0) then
              F0 k t6 t7 t8 t9 t10 t11 x 2 fun v49 v50 v51 =>
              G3 k (w64 (x + 1)) t6 t7 t8 t9 t10 t11 x1 x2 x3 v49 v50 v51 b0 r0
            else
              G3 k (w64 (x + 1)) t6 t7 t8 t9 t10 t11 x1 x2 x3 v42 v43 v44 b0 r0
          else
            G3 k (w64 (x + 1)) t6 t7 t8 t9 t10 t11 x1 x2 x3 v42 v43 v44 b0 r0
        else
        bif (!decide (x = 2)) then
          F0 k t6 t7 t8 t9 t10 t11 x 2 fun v52 v53 v54 =>
          F1 k v52 v53 v54 out out1 out2 fun v55 =>
          bif decide (v55 < 0) then
            F0 k t6 t7 t8 t9 t10 t11 x 2 fun v56 v57 v58 =>
            G3 k (w64 (x + 1)) t6 t7 t8 t9 t10 t11 x1 x2 x3 v56 v57 v58 b0 r0
          else
            G3 k (w64 (x + 1)) t6 t7 t8 t9 t10 t11 x1 x2 x3 out out1 out2 b0 r0
        else
          G3 k (w64 (x + 1)) t6 t7 t8 t9 t10 t11 x1 x2 x3 out out1 out2 b0 r0
      else
      bif (!decide (x = 2)) then
        F0 k t6 t7 t8 t9 t10 t11 x 2 fun v59 v60 v61 =>
        F1 k v59 v60 v61 out out1 out2 fun v62 =>
        bif decide (v62 < 0) then
          F0 k t6 t7 t8 t9 t10 t11 x 2 fun v63 v64 v65 =>
          G3 k (w64 (x + 1)) t6 t7 t8 t9 t10 t11 x1 x2 x3 v63 v64 v65 b0 r0
        else
          G3 k (w64 (x + 1)) t6 t7 t8 t9 t10 t11 x1 x2 x3 out out1 out2 b0 r0
      else
        G3 k (w64 (x + 1)) t6 t7 t8 t9 t10 t11 x1 x2 x3 out out1 out2 b0 r0
    else
    bif (!decide (x = 1)) then
      F0 k t6 t7 t8 t9 t10 t11 x 1 fun v66 v67 v68 =>
      F1 k v66 v67 v68 out out1 out2 fun v69 =>
      bif decide (v69 < 0) then
        F0 k t6 t7 t8 t9 t10 t11 x 1 fun v70 v71 v72 =>
        bif (!decide (x = 2)) then
          F0 k t6 t7 t8 t9 t10 t11 x 2 fun v73 v74 v75 =>
          F1 k v73 v74 v75 v70 v71 v72 fun v76 =>
          bif decide (v76 < 0) then
            F0 k t6 t7 t8 t9 t10 t11 x 2 fun v77 v78 v79 =>
            G3 k (w64 (x + 1)) t6 t7 t8 t9 t10 t11 x1 x2 x3 v77 v78 v79 b0 r0
          else
            G3 k (w64 (x + 1)) t6 t7 t8 t9 t10 t11 x1 x2 x3 v70 v71 v72 b0 r0
        else
          G3 k (w64 (x + 1)) t6 t7 t8 t9 t10 t11 x1 x2 x3 v70 v71 v72 b0 r0
      else
      bif (!decide (x = 2)) then
        F0 k t6 t7 t8 t9 t10 t11 x 2 fun v80 v81 v82 =>
        F1 k v80 v81 v82 out out1 out2 fun v83 =>
        bif decide (v83 < 0) then
          F0 k t6 t7 t8 t9 t10 t11 x 2 fun v84 v85 v86 =>
          G3 k (w64 (x + 1)) t6 t7 t8 t9 t10 t11 x1 x2 x3 v84 v85 v86 b0 r0
        else
          G3 k (w64 (x + 1)) t6 t7 t8 t9 t10 t11 x1 x2 x3 out out1 out2 b0 r0
      else
        G3 k (w64 (x + 1)) t6 t7 t8 t9 t10 t11 x1 x2 x3 out out1 out2 b0 r0
    else
    bif (!decide (x = 2)) then
      F0 k t6 t7 t8 t9 t10 t11 x 2 fun v87 v88 v89 =>
      F1 k v87 v88 v89 out out1 out2 fun v90 =>
      bif decide (v90 < 0) then
        F0 k t6 t7 t8 t9 t10 t11 x 2 fun v91 v92 v93 =>
        G3 k (w64 (x + 1)) t6 t7 t8 t9 t10 t11 x1 x2 x3 v91 v92 v93 b0 r0
      else
        G3 k (w64 (x + 1)) t6 t7 t8 t9 t10 t11 x1 x2 x3 out out1 out2 b0 r0
    else
      G3 k (w64 (x + 1)) t6 t7 t8 t9 t10 t11 x1 x2 x3 out out1 out2 b0 r0
  else
    b0 x t6 t7 t8 t9 t10 t11 x1 x2 x3 out out1 out2
theorem h25_g3 {α : Type} (F0 : T21 α) (F1 : T6 α) (G3 : T22 α) (n : Nat) : GenL (α := α) Try.prog Try.f25 S24 (h25_x F0 F1 G3 n) 3 h25_t3 h25_p3 n G3 (h25_b3 F0 F1 G3) := by intro _ _ _ _ _ _ _ _ _ _ _ _ _ _ _; kernel_rfl
def h25_b {α : Type} (F0 : T21 α) (G3 : T22 α) (k : Nat) (t : Int) (t1 : Int) (t2 : Int) (t3 : Int) (t4 : Int) (t5 : Int) (r0 : Int → Int → Int → Option α) : Option α :=
  F0 k t t1 t2 t3 t4 t5 0 1 fun v v1 v2 =>
  G3 k 0 t t1 t2 t3 t4 t5 0 0 0 v v1 v2
    (fun _ _ _ _ _ _ _ _ _ _ out3 out4 out5 =>
      r0 out3 out4 out5)
    r0
theorem h25_g {α : Type} (F0 : T21 α) (F1 : T6 α) (G3 : T22 α) (n : Nat) : GenF (α := α) Try.prog Try.f25 S24 (h25_x F0 F1 G3 n) n (h25_b F0 G3) := by intro _ _ _ _ _ _ _; kernel_rfl
theorem h25_good {α : Type} : ∀ n, GoodFn (α := α) Try.prog 25 (byShape S24.sh (callS S24 impl_Triangle_normal n)) := good_of Try.func25 (by kernel_rfl) (by kernel_rfl) (by kernel_rfl) eqs_ok (fun n => h25_g impl_Triangle_shape impl_shapeOrder impl_Triangle_normal_l3 n) (by delta h25_b impl_Triangle_normal; rfl) (allC h30_good (allC h43_good allN)) (allC (loop_fine (by kernel_rfl) (fun n => by delta h25_b3; funext _ _ _ _ _ _ _ _ _ _ _ _ _ _ _; exact (impl_Triangle_normal_l3.eq_2 ..).symm) (fun n => h25_g3 impl_Triangle_shape impl_shapeOrder impl_Triangle_normal_l3 n)) allN)

/-! loop.example/g01297/impl.NormalShape -/
abbrev h6_x {α : Type} (F0 : T23 α) (F1 : T24 α) : Nat → Ctx α := ctxS M eqs jt0 [⟨24, S14, F0⟩, ⟨25, S24, F1⟩] []
def h6_b {α : Type} (F0 : T23 α) (F1 : T24 α) (k : Nat) (t : Int) (t1 : Int) (t2 : Int) (t3 : Int) (t4 : Int) (t5 : Int) (r0 : Int → Int → Int → Int → Option α) : Option α :=
  F0 k t t1 t2 t3 t4 t5 fun v =>
  bif (!v) then
    r0 0 0 0 1
  else
    F1 k t t1 t2 t3 t4 t5 fun v1 v2 v3 =>
    r0 v1 v2 v3 0
theorem h6_g {α : Type} (F0 : T23 α) (F1 : T24 α) (n : Nat) : GenF (α := α) Try.prog Try.f6 S25 (h6_x F0 F1 n) n (h6_b F0 F1) := by intro _ _ _ _ _ _ _; kernel_rfl
theorem h6_good {α : Type} : ∀ n, GoodFn (α := α) Try.prog 6 (byShape S25.sh (callS S25 impl_NormalShape n)) := good_of Try.func6 (by kernel_rfl) (by kernel_rfl) (by kernel_rfl) eqs_ok (fun n => h6_g impl_IsTriangle impl_Triangle_normal n) (by delta h6_b impl_NormalShape; rfl) (allC h24_good (allC h25_good allN)) allN

/-! loop.example/g01297/spec.l01In -/
abbrev h31_x {α : Type}  : Nat → Ctx α := ctxS M eqs jt0 [] []
def h31_b {α : Type}  (_ : Nat) (n_ : Int) (low : Int) (high : Int) (r0 : Bool → Option α) : Option α :=
  bif decide (low ≤ n_) then
    r0 (decide (n_ ≤ high))
  else
    r0 false
theorem h31_g {α : Type}  (n : Nat) : GenF (α := α) Try.prog Try.f31 S10 (h31_x n) n (h31_b) := by intro _ _ _ _; kernel_rfl
theorem h31_good {α : Type} : ∀ n, GoodFn (α := α) Try.prog 31 (byShape S10.sh (callS S10 spec_l01In n)) := good_of Try.func31 (by kernel_rfl) (by kernel_rfl) (by kernel_rfl) eqs_ok (fun n => h31_g n) (by delta h31_b spec_l01In; rfl) allN allN

/-! loop.example/g01297/spec.l04Is -/
abbrev h26_x {α : Type} (F0 : T9 α) (F1 : T6 α) : Nat → Ctx α := ctxS M eqs jt0 [⟨31, S10, F0⟩, ⟨51, S7, F1⟩] []
def h26_b {α : Type} (F0 : T9 α) (F1 : T6 α) (k : Nat) (t : Int) (t1 : Int) (t2 : Int) (t3 : Int) (t4 : Int) (t5 : Int) (r0 : Bool → Option α) : Option α :=
  F0 k t (-1000) 1000 fun v =>
  bif (!v) then
    r0 false
  else
    F0 k t1 (-1000) 1000 fun v1 =>
    bif (!v1) then
      r0 false
    else
      F0 k t2 (-1000) 1000 fun v2 =>
      bif (!v2) then
        r0 false
      else
        F0 k t3 (-1000) 1000 fun v3 =>
        bif (!v3) then
          r0 false
        else
          F0 k t4 (-1000) 1000 fun v4 =>
          bif (!v4) then
            r0 false
          else
            F0 k t5 (-1000) 1000 fun v5 =>
            bif (!v5) then
              r0 false
            else
              F1 k t t1 t2 t3 t4 t5 fun v6 =>
              r0 (!decide (v6 = 0))
theorem h26_g {α : Type} (F0 : T9 α) (F1 : T6 α) (n : Nat) : GenF (α := α) Try.prog Try.f26 S14 (h26_x F0 F1 n) n (h26_b F0 F1) := by intro _ _ _ _ _ _ _; kernel_rfl
theorem h26_good {α : Type} : ∀ n, GoodFn (α := α) Try.prog 26 (byShape S14.sh (callS S14 spec_l04Is n)) := good_of Try.func26 (by kernel_rfl) (by kernel_rfl) (by kernel_rfl) eqs_ok (fun n => h26_g spec_l01In spec_l01Area n) (by delta h26_b spec_l04Is; rfl) (allC h31_good (allC h51_good allN)) allN

/-! loop.example/g01297/spec.l01Gcd -/
def h75_t1 : Tpl := ⟨(.int .i64 :: (.int .i64 :: (anyN 15 []))), [], [], false⟩
def h75_p1 : PcS := loopS [.int, .int] [0]
abbrev h75_x {α : Type} (G1 : T13 α) : Nat → Ctx α := ctxS M eqs jt0 [] [lpT 1 h75_t1 h75_p1 R5 G1]
def h75_b1 {α : Type} (G1 : T13 α) (k : Nat) (a1 : Int) (b_1 : Int) (b0 : Int → Int → Option α) (r0 : Int → Option α) : Option α :=
  bif (!decide (b_1 = 0)) then
    bif decide (b_1 = 0) then
      none
    else
      G1 k b_1 (Int.tmod a1 b_1) b0 r0
  else
    b0 a1 b_1
theorem h75_g1 {α : Type} (G1 : T13 α) (n : Nat) : GenL (α := α) Try.prog Try.f75 S16 (h75_x G1 n) 1 h75_t1 h75_p1 n G1 (h75_b1 G1) := by intro _ _ _ _; kernel_rfl
def h75_b {α : Type} (G1 : T13 α) (k : Nat) (a : Int) (b_ : Int) (r0 : Int → Option α) : Option α :=
  G1 k a b_
    (fun a2 _ =>
      r0 (max a2 (w64 (0 - a2))))
    r0
theorem h75_g {α : Type} (G1 : T13 α) (n : Nat) : GenF (α := α) Try.prog Try.f75 S16 (h75_x G1 n) n (h75_b G1) := by intro _ _ _; kernel_rfl
theorem h75_good {α : Type} : ∀ n, GoodFn (α := α) Try.prog 75 (byShape S16.sh (callS S16 spec_l01Gcd n)) := good_of Try.func75 (by kernel_rfl) (by kernel_rfl) (by kernel_rfl) eqs_ok (fun n => h75_g spec_l01Gcd_l1 n) (by delta h75_b spec_l01Gcd; rfl) allN (allC (loop_fine (by kernel_rfl) (fun n => by delta h75_b1; funext _ _ _ _; exact (spec_l01Gcd_l1.eq_2 ..).symm) (fun n => h75_g1 spec_l01Gcd_l1 n)) allN)

/-! loop.example/g01297/spec.l01Part -/
abbrev h59_x {α : Type} (F0 : T14 α) : Nat → Ctx α := ctxS M eqs jt0 [⟨75, S16, F0⟩] []
def h59_b {α : Type} (F0 : T14 α) (k : Nat) (a : Int) (a1 : Int) (r0 : Int → Int → Option α) : Option α :=
  F0 k a a1 fun v =>
  bif decide (v = 0) then
    none
  else
  bif decide (v = 0) then
    none
  else
    r0 (w64 (Int.tdiv a v)) (w64 (Int.tdiv a1 v))
theorem h59_g {α : Type} (F0 : T14 α) (n : Nat) : GenF (α := α) Try.prog Try.f59 S19 (h59_x F0 n) n (h59_b F0) := by intro _ _ _; kernel_rfl
theorem h59_good {α : Type} : ∀ n, GoodFn (α := α) Try.prog 59 (byShape S19.sh (callS S19 spec_l01Part n)) := good_of Try.func59 (by kernel_rfl) (by kernel_rfl) (by kernel_rfl) eqs_ok (fun n => h59_g spec_l01Gcd n) (by delta h59_b spec_l01Part; rfl) (allC h75_good allN) allN

/-! loop.example/g01297/spec.l01Length -/
abbrev h60_x {α : Type} (F0 : T14 α) : Nat → Ctx α := ctxS M eqs jt0 [⟨75, S16, F0⟩] []
def h60_b {α : Type} (F0 : T14 α) (k : Nat) (a : Int) (a1 : Int) (b_ : Int) (b_1 : Int) (r0 : Int → Option α) : Option α :=
  F0 k (w64 (b_ - a)) (w64 (b_1 - a1)) fun v =>
  r0 v
theorem h60_g {α : Type} (F0 : T14 α) (n : Nat) : GenF (α := α) Try.prog Try.f60 S6 (h60_x F0 n) n (h60_b F0) := by intro _ _ _ _ _; kernel_rfl
theorem h60_good {α : Type} : ∀ n, GoodFn (α := α) Try.prog 60 (byShape S6.sh (callS S6 spec_l01Length n)) := good_of Try.func60 (by kernel_rfl) (by kernel_rfl) (by kernel_rfl) eqs_ok (fun n => h60_g spec_l01Gcd n) (by delta h60_b spec_l01Length; rfl) (allC h75_good allN) allN

/-! loop.example/g01297/spec.l04Area -/
abbrev h61_x {α : Type} (F0 : T6 α) : Nat → Ctx α := ctxS M eqs jt0 [⟨51, S7, F0⟩] []
def h61_b {α : Type} (F0 : T6 α) (k : Nat) (t : Int) (t1 : Int) (t2 : Int) (t3 : Int) (t4 : Int) (t5 : Int) (r0 : Int → Option α) : Option α :=
  F0 k t t1 t2 t3 t4 t5 fun v =>
  r0 v
theorem h61_g {α : Type} (F0 : T6 α) (n : Nat) : GenF (α := α) Try.prog Try.f61 S18 (h61_x F0 n) n (h61_b F0) := by intro _ _ _ _ _ _ _; kernel_rfl
theorem h61_good {α : Type} : ∀ n, GoodFn (α := α) Try.prog 61 (byShape S18.sh (callS S18 spec_l04Area n)) := good_of Try.func61 (by kernel_rfl) (by kernel_rfl) (by kernel_rfl) eqs_ok (fun n => h61_g spec_l01Area n) (by delta h61_b spec_l04Area; rfl) (allC h51_good allN) allN

/-! loop.example/g01297/spec.l01Rest -/
abbrev h62_x {α : Type}  : Nat → Ctx α := ctxS M eqs jt0 [] []
def h62_b {α : Type}  (_ : Nat) (n_ : Int) (x : Int) (r0 : Int → Option α) : Option α :=
  bif decide (n_ = 0) then
    none
  else
  bif decide (n_ = 0) then
    none
  else
    r0 (Int.tmod (w64 ((Int.tmod x n_) + n_)) n_)
theorem h62_g {α : Type}  (n : Nat) : GenF (α := α) Try.prog Try.f62 S16 (h62_x n) n (h62_b) := by intro _ _ _; kernel_rfl
theorem h62_good {α : Type} : ∀ n, GoodFn (α := α) Try.prog 62 (byShape S16.sh (callS S16 spec_l01Rest n)) := good_of Try.func62 (by kernel_rfl) (by kernel_rfl) (by kernel_rfl) eqs_ok (fun n => h62_g n) (by delta h62_b spec_l01Rest; rfl) allN allN

/-! loop.example/g01297/spec.l01Base -/
def h64_t5 : Tpl := ⟨(.any :: (.ptr 64 0 0 :: (.ptr 128 0 0 :: (.int .i64 :: (.int .i64 :: (.int .i64 :: (.int .i64 :: (.int .i64 :: (anyN 50 []))))))))), [(64, .ints 2 25 .i64 2), (128, .ints 2 25 .i64 2)], [], false⟩
def h64_p5 : PcS := loopS [.int, .int, .int, .int, .int, .int, .int, .int, .int] [0]
abbrev h64_x {α : Type} (F0 : T14 α) (G5 : T25 α) : Nat → Ctx α := ctxS M eqs jt0 [⟨62, S16, F0⟩] [lpT 5 h64_t5 h64_p5 R4 G5]
def h64_b5 {α : Type} (G5 : T25 α) (k : Nat) (n_ : Int) (x : Int) (before : Int) (rest : Int) (next : Int) (a2 : Int) (a3 : Int) (x1 : Int) (x2 : Int) (b0 : Int → Int → Int → Int → Int → Int → Int → Int → Int → Option α) (r0 : Int → Int → Option α) : Option α :=
  bif (!decide (next = 0)) then
    bif decide (next = 0) then
      none
    else
      G5 k n_ before (w64 (x - (w64 ((w64 (Int.tdiv rest next)) * before)))) next (w64 (rest - (w64 ((w64 (Int.tdiv rest next)) * next)))) a2 a3 x1 x2 b0 r0
  else
    b0 n_ x before rest next a2 a3 x1 x2
theorem h64_g5 {α : Type} (F0 : T14 α) (G5 : T25 α) (n : Nat) : GenL (α := α) Try.prog Try.f64 S19 (h64_x F0 G5 n) 5 h64_t5 h64_p5 n G5 (h64_b5 G5) := by intro _ _ _ _ _ _ _ _ _ _ _; kernel_rfl
def h64_b {α : Type} (F0 : T14 α) (G5 : T25 α) (k : Nat) (a : Int) (a1 : Int) (r0 : Int → Int → Option α) : Option α :=
  bif decide (a = 0) then
    r0 (w64 (0 - a1)) 0
  else
    F0 k (max a (w64 (0 - a))) a1 fun v =>
    G5 k (max a (w64 (0 - a))) 1 0 v (max a (w64 (0 - a))) a a1 0 0
      (fun n_1 x3 _ _ _ a4 a5 _ _ =>
        F0 k n_1 (w64 (0 - x3)) fun v1 =>
        bif decide (a4 = 0) then
          none
        else
          r0 v1 (w64 (Int.tdiv (w64 (1 + (w64 (a5 * v1)))) a4)))
      r0
theorem h64_g {α : Type} (F0 : T14 α) (G5 : T25 α) (n : Nat) : GenF (α := α) Try.prog Try.f64 S19 (h64_x F0 G5 n) n (h64_b F0 G5) := by intro _ _ _; kernel_rfl
theorem h64_good {α : Type} : ∀ n, GoodFn (α := α) Try.prog 64 (byShape S19.sh (callS S19 spec_l01Base n)) := good_of Try.func64 (by kernel_rfl) (by kernel_rfl) (by kernel_rfl) eqs_ok (fun n => h64_g spec_l01Rest spec_l01Base_l5 n) (by delta h64_b spec_l01Base; rfl) (allC h62_good allN) (allC (loop_fine (by kernel_rfl) (fun n => by delta h64_b5; funext _ _ _ _ _ _ _ _ _ _ _; exact (spec_l01Base_l5.eq_2 ..).symm) (fun n => h64_g5 spec_l01Rest spec_l01Base_l5 n)) allN)

/-! loop.example/g01297/spec.l04Shape -/
abbrev h32_x {α : Type} (F0 : T2 α) (F1 : T17 α) (F2 : T3 α) (F3 : T6 α) (F4 : T17 α) (F5 : T3 α) (F6 : T14 α) : Nat → Ctx α := ctxS M eqs jt0 [⟨40, S5, F0⟩, ⟨59, S19, F1⟩, ⟨60, S6, F2⟩, ⟨61, S18, F3⟩, ⟨64, S19, F4⟩, ⟨63, S6, F5⟩, ⟨62, S16, F6⟩] []
def h32_b {α : Type} (F0 : T2 α) (F1 : T17 α) (F2 : T3 α) (F3 : T6 α) (F4 : T17 α) (F5 : T3 α) (F6 : T14 α) (k : Nat) (t : Int) (t1 : Int) (t2 : Int) (t3 : Int) (t4 : Int) (t5 : Int) (i : Int) (j : Int) (r0 : Int → Int → Int → Option α) : Option α :=
  bif (decide (0 ≤ j) && decide (j < 3)) then
    ([t, t1, t2, t3, t4, t5][(j.toNat * 2)]?).bind fun e_ =>
    ([t, t1, t2, t3, t4, t5][((j.toNat * 2) + 1)]?).bind fun e_1 =>
    bif (decide (0 ≤ i) && decide (i < 3)) then
      ([t, t1, t2, t3, t4, t5][(i.toNat * 2)]?).bind fun e_2 =>
      ([t, t1, t2, t3, t4, t5][((i.toNat * 2) + 1)]?).bind fun e_3 =>
      bif (decide (0 ≤ (w64 ((w64 (3 - i)) - j))) && decide ((w64 ((w64 (3 - i)) - j)) < 3)) then
        ([t, t1, t2, t3, t4, t5][((w64 ((w64 (3 - i)) - j)).toNat * 2)]?).bind fun e_4 =>
        ([t, t1, t2, t3, t4, t5][(((w64 ((w64 (3 - i)) - j)).toNat * 2) + 1)]?).bind fun e_5 =>
        bif (decide (0 ≤ i) && decide (i < 3)) then
          ([t, t1, t2, t3, t4, t5][(i.toNat * 2)]?).bind fun e_6 =>
          ([t, t1, t2, t3, t4, t5][((i.toNat * 2) + 1)]?).bind fun e_7 =>
          F0 k e_ e_1 e_2 e_3 (-1) fun v v1 =>
          F0 k e_4 e_5 e_6 e_7 (-1) fun v2 v3 =>
          F1 k v v1 fun v4 v5 =>
          bif (decide (0 ≤ i) && decide (i < 3)) then
            ([t, t1, t2, t3, t4, t5][(i.toNat * 2)]?).bind fun e_8 =>
            ([t, t1, t2, t3, t4, t5][((i.toNat * 2) + 1)]?).bind fun e_9 =>
            bif (decide (0 ≤ j) && decide (j < 3)) then
              ([t, t1, t2, t3, t4, t5][(j.toNat * 2)]?).bind fun e_10 =>
              ([t, t1, t2, t3, t4, t5][((j.toNat * 2) + 1)]?).bind fun e_11 =>
              F2 k e_8 e_9 e_10 e_11 fun v6 =>
              F3 k t t1 t2 t3 t4 t5 fun v7 =>
              bif decide (v6 = 0) then
                none
              else
                F4 k v4 v5 fun v8 v9 =>
                F5 k v2 v3 v8 v9 fun v10 =>
                F6 k (w64 (Int.tdiv v7 v6)) v10 fun v11 =>
                r0 v6 v11 (w64 (Int.tdiv v7 v6))
            else
              none
          else
            none
        else
          none
      else
        none
    else
      none
  else
    none
theorem h32_g {α : Type} (F0 : T2 α) (F1 : T17 α) (F2 : T3 α) (F3 : T6 α) (F4 : T17 α) (F5 : T3 α) (F6 : T14 α) (n : Nat) : GenF (α := α) Try.prog Try.f32 S20 (h32_x F0 F1 F2 F3 F4 F5 F6 n) n (h32_b F0 F1 F2 F3 F4 F5 F6) := by intro _ _ _ _ _ _ _ _ _; kernel_rfl
theorem h32_good {α : Type} : ∀ n, GoodFn (α := α) Try.prog 32 (byShape S20.sh (callS S20 spec_l04Shape n)) := good_of Try.func32 (by kernel_rfl) (by kernel_rfl) (by kernel_rfl) eqs_ok (fun n => h32_g spec_l01Plus spec_l01Part spec_l01Length spec_l04Area spec_l01Base spec_l01Det spec_l01Rest n) (by delta h32_b spec_l04Shape; rfl) (allC h40_good (allC h59_good (allC h60_good (allC h61_good (allC h64_good (allC h63_good (allC h62_good allN))))))) allN

/-! loop.example/g01297/spec.l04Before -/
abbrev h52_x {α : Type}  : Nat → Ctx α := ctxS M eqs jt0 [] []
def h52_b {α : Type}  (_ : Nat) (x : Int) (x1 : Int) (x2 : Int) (y : Int) (y1 : Int) (y2 : Int) (r0 : Bool → Option α) : Option α :=
  bif (!decide (x = y)) then
    r0 (decide (x < y))
  else
  bif (!decide (x1 = y1)) then
    r0 (decide (x1 < y1))
  else
    r0 (decide (x2 < y2))
theorem h52_g {α : Type}  (n : Nat) : GenF (α := α) Try.prog Try.f52 S26 (h52_x n) n (h52_b) := by intro _ _ _ _ _ _ _; kernel_rfl
theorem h52_good {α : Type} : ∀ n, GoodFn (α := α) Try.prog 52 (byShape S26.sh (callS S26 spec_l04Before n)) := good_of Try.func52 (by kernel_rfl) (by kernel_rfl) (by kernel_rfl) eqs_ok (fun n => h52_g n) (by delta h52_b spec_l04Before; rfl) allN allN

/-! loop.example/g01297/spec.l04Normal -/
def h27_t3 : Tpl := ⟨(.any :: (.ptr 64 0 0 :: (.ptr 128 0 0 :: (.ptr 192 0 0 :: (.int .i64 :: (anyN 24 [])))))), [(64, .ints 2 27 .i64 6), (128, .ints 2 30 .i64 3), (192, .ints 2 30 .i64 3)], [], false⟩
def h27_p3 : PcS := loopS [.int, .int, .int, .int, .int, .int, .int, .int, .int, .int, .int, .int, .int] [0]
abbrev h27_x {α : Type} (F0 : T21 α) (F1 : T23 α) (G3 : T22 α) : Nat → Ctx α := ctxS M eqs jt0 [⟨32, S20, F0⟩, ⟨52, S26, F1⟩] [lpT 3 h27_t3 h27_p3 R8 G3]
def h27_b3 {α : Type} (F0 : T21 α) (F1 : T23 α) (G3 : T22 α) (k : Nat) (i : Int) (t6 : Int) (t7 : Int) (t8 : Int) (t9 : Int) (t10 : Int) (t11 : Int) (x : Int) (x1 : Int) (x2 : Int) (out : Int) (out1 : Int) (out2 : Int) (b0 : Int → Int → Int → Int → Int → Int → Int → Int → Int → Int → Int → Int → Int → Option α) (r0 : Int → Int → Int → Option α) : Option α :=
  bif decide (i < 3) then
    bif decide (i = 0) then
      bif decide (i = 1) then
        bif decide (i = 2) then
          G3 k (w64 (i + 1)) t6 t7 t8 t9 t10 t11 x x1 x2 out out1 out2 b0 r0
        else
          F0 k t6 t7 t8 t9 t10 t11 i 2 fun v3 v4 v5 =>
          F1 k v3 v4 v5 out out1 out2 fun v6 =>
          bif v6 then
            G3 k (w64 (i + 1)) t6 t7 t8 t9 t10 t11 x x1 x2 v3 v4 v5 b0 r0
          else
            G3 k (w64 (i + 1)) t6 t7 t8 t9 t10 t11 x x1 x2 out out1 out2 b0 r0
      else
        F0 k t6 t7 t8 t9 t10 t11 i 1 fun v7 v8 v9 =>
        F1 k v7 v8 v9 out out1 out2 fun v10 =>
        bif v10 then
          bif decide (i = 2) then
            G3 k (w64 (i + 1)) t6 t7 t8 t9 t10 t11 x x1 x2 v7 v8 v9 b0 r0
          else
            F0 k t6 t7 t8 t9 t10 t11 i 2 fun v11 v12 v13 =>
            F1 k v11 v12 v13 v7 v8 v9 fun v14 =>
            bif v14 then
              G3 k (w64 (i + 1)) t6 t7 t8 t9 t10 t11 x x1 x2 v11 v12 v13 b0 r0
            else
              G3 k (w64 (i + 1)) t6 t7 t8 t9 t10 t11 x x1 x2 v7 v8 v9 b0 r0
        else
        bif decide (i = 2) then
          G3 k (w64 (i + 1)) t6 t7 t8 t9 t10 t11 x x1 x2 out out1 out2 b0 r0
        else
          F0 k t6 t7 t8 t9 t10 t11 i 2 fun v15 v16 v17 =>
          F1 k v15 v16 v17 out out1 out2 fun v18 =>
          bif v18 then
            G3 k (w64 (i + 1)) t6 t7 t8 t9 t10 t11 x x1 x2 v15 v16 v17 b0 r0
          else
            G3 k (w64 (i + 1)) t6 t7 t8 t9 t10 t11 x x1 x2 out out1 out2 b0 r0
    else
      F0 k t6 t7 t8 t9 t10 t11 i 0 fun v19 v20 v21 =>
      F1 k v19 v20 v21 out out1 out2 fun v22 =>
      bif v22 then
        bif decide (i = 1) then
          bif decide (i = 2) then
            G3 k (w64 (i + 1)) t6 t7 t8 t9 t10 t11 x x1 x2 v19 v20 v21 b0 r0
          else
            F0 k t6 t7 t8 t9 t10 t11 i 2 fun v23 v24 v25 =>
            F1 k v23 v24 v25 v19 v20 v21 fun v26 =>
            bif v26 then
              G3 k (w64 (i + 1)) t6 t7 t8 t9 t10 t11 x x1 x2 v23 v24 v25 b0 r0
            else
              G3 k (w64 (i + 1)) t6 t7 t8 t9 t10 t11 x x1 x2 v19 v20 v21 b0 r0
        else
          F0 k t6 t7 t8 t9 t10 t11 i 1 fun v27 v28 v29 =>
          F1 k v27 v28 v29 v19 v20 v21 fun v30 =>
          bif v30 then
            bif decide (i = 2) then
              G3 k (w64 (i + 1)) t6 t7 t8 t9 t10 t11 x x1 x2 v27 v28 v29 b0 r0
            else
              F0 k t6 t7 t8 t9 t10 t11 i 2 fun v31 v32 v33 =>
              F1 k v31 v32 v33 v27 v28 v29 fun v34 =>
              bif v34 then
                G3 k (w64 (i + 1)) t6 t7 t8 t9 t10 t11 x x1 x2 v31 v32 v33 b0 r0
              else
                G3 k (w64 (i + 1)) t6 t7 t8 t9 t10 t11 x x1 x2 v27 v28 v29 b0 r0
          else
          bif decide (i = 2) then
            G3 k (w64 (i + 1)) t6 t7 t8 t9 t10 t11 x x1 x2 v19 v20 v21 b0 r0
          else
            F0 k t6 t7 t8 t9 t10 t11 i 2 fun v35 v36 v37 =>
            F1 k v35 v36 v37 v19 v20 v21 fun v38 =>
            bif v38 then
              G3 k (w64 (i + 1)) t6 t7 t8 t9 t10 t11 x x1 x2 v35 v36 v37 b0 r0
            else
              G3 k (w64 (i + 1)) t6 t7 t8 t9 t10 t11 x x1 x2 v19 v20 v21 b0 r0
      else
      bif decide (i = 1) then
        bif decide (i = 2) then
          G3 k (w64 (i + 1)) t6 t7 t8 t9 t10 t11 x x1 x2 out out1 out2 b0 r0
        else
          F0 k t6 t7 t8 t9 t10 t11 i 2 fun v39 v40 v41 =>
          F1 k v39 v40 v41 out out1 out2 fun v42 =>
          bif v42 then
            G3 k (w64 (i + 1)) t6 t7 t8 t9 t10 t11 x x1 x2 v39 v40 v41 b0 r0
          else
            G3 k (w64 (i + 1)) t6 t7 t8 t9 t10 t11 x x1 x2 out out1 out2 b0 r0
      else
        F0 k t6 t7 t8 t9 t10 t11 i 1 fun v43 v44 v45 =>
        F1 k v43 v44 v45 out out1 out2 fun v46 =>
        bif v46 then
          bif decide (i = 2) then
            G3 k (w64 (i + 1)) t6 t7 t8 t9 t10 t11 x x1 x2 v43 v44 v45 b0 r0
          else
            F0 k t6 t7 t8 t9 t10 t11 i 2 fun v47 v48 v49 =>
            F1 k v47 v48 v49 v43 v44 v45 fun v50 =>
            bif v50 then
              G3 k (w64 (i + 1)) t6 t7 t8 t9 t10 t11 x x1 x2 v47 v48 v49 b0 r0
            else
              G3 k (w64 (i + 1)) t6 t7 t8 t9 t10 t11 x x1 x2 v43 v44 v45 b0 r0
        else
        bif decide (i = 2) then
          G3 k (w64 (i + 1)) t6 t7 t8 t9 t10 t11 x x1 x2 out out1 out2 b0 r0
        else
          F0 k t6 t7 t8 t9 t10 t11 i 2 fun v51 v52 v53 =>
          F1 k v51 v52 v53 out out1 out2 fun v54 =>
          bif v54 then
            G3 k (w64 (i + 1)) t6 t7 t8 t9 t10 t11 x x1 x2 v51 v52 v53 b0 r0
          else
            G3 k (w64 (i + 1)) t6 t7 t8 t9 t10 t11 x x1 x2 out out1 out2 b0 r0
  else
    b0 i t6 t7 t8 t9 t10 t11 x x1 x2 out out1 out2
theorem h27_g3 {α : Type} (F0 : T21 α) (F1 : T23 α) (G3 : T22 α) (n : Nat) : GenL (α := α) Try.prog Try.f27 S24 (h27_x F0 F1 G3 n) 3 h27_t3 h27_p3 n G3 (h27_b3 F0 F1 G3) := by intro _ _ _ _ _ _ _ _ _ _ _ _ _ _ _; kernel_rfl
def h27_b {α : Type} (F0 : T21 α) (G3 : T22 α) (k : Nat) (t : Int) (t1 : Int) (t2 : Int) (t3 : Int) (t4 : Int) (t5 : Int) (r0 : Int → Int → Int → Option α) : Option α :=
  F0 k t t1 t2 t3 t4 t5 0 1 fun v v1 v2 =>
  G3 k 0 t t1 t2 t3 t4 t5 0 0 0 v v1 v2
    (fun _ _ _ _ _ _ _ _ _ _ out3 out4 out5 =>
      r0 out3 out4 out5)
    r0
theorem h27_g {α : Type} (F0 : T21 α) (F1 : T23 α) (G3 : T22 α) (n : Nat) : GenF (α := α) Try.prog Try.f27 S24 (h27_x F0 F1 G3 n) n (h27_b F0 G3) := by intro _ _ _ _ _ _ _; kernel_rfl
theorem h27_good {α : Type} : ∀ n, GoodFn (α := α) Try.prog 27 (byShape S24.sh (callS S24 spec_l04Normal n)) := good_of Try.func27 (by kernel_rfl) (by kernel_rfl) (by kernel_rfl) eqs_ok (fun n => h27_g spec_l04Shape spec_l04Before spec_l04Normal_l3 n) (by delta h27_b spec_l04Normal; rfl) (allC h32_good (allC h52_good allN)) (allC (loop_fine (by kernel_rfl) (fun n => by delta h27_b3; funext _ _ _ _ _ _ _ _ _ _ _ _ _ _ _; exact (spec_l04Normal_l3.eq_2 ..).symm) (fun n => h27_g3 spec_l04Shape spec_l04Before spec_l04Normal_l3 n)) allN)

/-! loop.example/g01297/spec.NormalShape -/
abbrev h7_x {α : Type} (F0 : T23 α) (F1 : T24 α) : Nat → Ctx α := ctxS M eqs jt0 [⟨26, S14, F0⟩, ⟨27, S24, F1⟩] []
def h7_b {α : Type} (F0 : T23 α) (F1 : T24 α) (k : Nat) (t : Int) (t1 : Int) (t2 : Int) (t3 : Int) (t4 : Int) (t5 : Int) (r0 : Int → Int → Int → Int → Option α) : Option α :=
  F0 k t t1 t2 t3 t4 t5 fun v =>
  bif (!v) then
    r0 0 0 0 1
  else
    F1 k t t1 t2 t3 t4 t5 fun v1 v2 v3 =>
    r0 v1 v2 v3 0
theorem h7_g {α : Type} (F0 : T23 α) (F1 : T24 α) (n : Nat) : GenF (α := α) Try.prog Try.f7 S25 (h7_x F0 F1 n) n (h7_b F0 F1) := by intro _ _ _ _ _ _ _; kernel_rfl
theorem h7_good {α : Type} : ∀ n, GoodFn (α := α) Try.prog 7 (byShape S25.sh (callS S25 spec_NormalShape n)) := good_of Try.func7 (by kernel_rfl) (by kernel_rfl) (by kernel_rfl) eqs_ok (fun n => h7_g spec_l04Is spec_l04Normal n) (by delta h7_b spec_NormalShape; rfl) (allC h26_good (allC h27_good allN)) allN

/-! loop.example/g01297/spec.DrawShapeOf -/
abbrev h8_x {α : Type} (F0 : T8 α) (F1 : T1 α) (F2 : T7 α) : Nat → Ctx α := ctxS M eqs jt0 [⟨23, S1, F0⟩, ⟨28, S2, F1⟩, ⟨22, S8, F2⟩] []
def h8_b {α : Type} (F0 : T8 α) (F1 : T1 α) (F2 : T7 α) (k : Nat) (code : List Int) (r0 : Int → Int → Int → Int → Int → Int → Int → Int → Option α) : Option α :=
  F0 k code fun v v1 =>
  F1 k code v v1 3 fun v2 v3 v4 =>
  F2 k code v3 v4 fun v5 v6 v7 v8 v9 v10 v11 v12 =>
  F1 k code v11 v12 2 fun v13 v14 v15 =>
  F1 k code v14 v15 16 fun v16 _ _ =>
  r0 v5 v6 v7 v8 v9 v10 v2 (Int.tmod (w64 ((w64 ((w64 (v2 + 1)) + v13)) + (w64 (Int.tdiv v16 15)))) 4)
theorem h8_g {α : Type} (F0 : T8 α) (F1 : T1 α) (F2 : T7 α) (n : Nat) : GenF (α := α) Try.prog Try.f8 S27 (h8_x F0 F1 F2 n) n (h8_b F0 F1 F2) := by intro _ _; kernel_rfl
theorem h8_good {α : Type} : ∀ n, GoodFn (α := α) Try.prog 8 (byShape S27.sh (callS S27 spec_DrawShapeOf n)) := good_of Try.func8 (by kernel_rfl) (by kernel_rfl) (by kernel_rfl) eqs_ok (fun n => h8_g spec_l01From spec_l01Next spec_l04Spoil n) (by delta h8_b spec_DrawShapeOf; rfl) (allC h23_good (allC h28_good (allC h22_good allN))) allN

/-! loop.example/g01297/impl.ShapeOf -/
abbrev h9_x {α : Type} (F0 : T23 α) (F1 : T9 α) (F2 : T21 α) : Nat → Ctx α := ctxS M eqs jt0 [⟨24, S14, F0⟩, ⟨29, S10, F1⟩, ⟨30, S20, F2⟩] []
def h9_b {α : Type} (F0 : T23 α) (F1 : T9 α) (F2 : T21 α) (k : Nat) (t : Int) (t1 : Int) (t2 : Int) (t3 : Int) (t4 : Int) (t5 : Int) (i : Int) (j : Int) (r0 : Int → Int → Int → Int → Option α) : Option α :=
  F0 k t t1 t2 t3 t4 t5 fun v =>
  bif (!v) then
    r0 0 0 0 1
  else
    F1 k i 0 2 fun v1 =>
    bif (!v1) then
      r0 0 0 0 2
    else
      F1 k j 0 2 fun v2 =>
      bif (!v2) then
        r0 0 0 0 2
      else
      bif decide (i = j) then
        r0 0 0 0 2
      else
        F2 k t t1 t2 t3 t4 t5 i j fun v3 v4 v5 =>
        r0 v3 v4 v5 0
theorem h9_g {α : Type} (F0 : T23 α) (F1 : T9 α) (F2 : T21 α) (n : Nat) : GenF (α := α) Try.prog Try.f9 S28 (h9_x F0 F1 F2 n) n (h9_b F0 F1 F2) := by intro _ _ _ _ _ _ _ _ _; kernel_rfl
theorem h9_good {α : Type} : ∀ n, GoodFn (α := α) Try.prog 9 (byShape S28.sh (callS S28 impl_ShapeOf n)) := good_of Try.func9 (by kernel_rfl) (by kernel_rfl) (by kernel_rfl) eqs_ok (fun n => h9_g impl_IsTriangle impl_in impl_Triangle_shape n) (by delta h9_b impl_ShapeOf; rfl) (allC h24_good (allC h29_good (allC h30_good allN))) allN

/-! loop.example/g01297/spec.ShapeOf -/
abbrev h10_x {α : Type} (F0 : T23 α) (F1 : T9 α) (F2 : T21 α) : Nat → Ctx α := ctxS M eqs jt0 [⟨26, S14, F0⟩, ⟨31, S10, F1⟩, ⟨32, S20, F2⟩] []
def h10_b {α : Type} (F0 : T23 α) (F1 : T9 α) (F2 : T21 α) (k : Nat) (t : Int) (t1 : Int) (t2 : Int) (t3 : Int) (t4 : Int) (t5 : Int) (i : Int) (j : Int) (r0 : Int → Int → Int → Int → Option α) : Option α :=
  F0 k t t1 t2 t3 t4 t5 fun v =>
  bif (!v) then
    r0 0 0 0 1
  else
    F1 k i 0 2 fun v1 =>
    bif (!v1) then
      r0 0 0 0 2
    else
      F1 k j 0 2 fun v2 =>
      bif (!v2) then
        r0 0 0 0 2
      else
      bif decide (i = j) then
        r0 0 0 0 2
      else
        F2 k t t1 t2 t3 t4 t5 i j fun v3 v4 v5 =>
        r0 v3 v4 v5 0
theorem h10_g {α : Type} (F0 : T23 α) (F1 : T9 α) (F2 : T21 α) (n : Nat) : GenF (α := α) Try.prog Try.f10 S28 (h10_x F0 F1 F2 n) n (h10_b F0 F1 F2) := by intro _ _ _ _ _ _ _ _ _; kernel_rfl
theorem h10_good {α : Type} : ∀ n, GoodFn (α := α) Try.prog 10 (byShape S28.sh (callS S28 spec_ShapeOf n)) := good_of Try.func10 (by kernel_rfl) (by kernel_rfl) (by kernel_rfl) eqs_ok (fun n => h10_g spec_l04Is spec_l01In spec_l04Shape n) (by delta h10_b spec_ShapeOf; rfl) (allC h26_good (allC h31_good (allC h32_good allN))) allN

/-! loop.example/g01297/spec.l01Near -/
abbrev h34_x {α : Type} (F0 : T1 α) (F1 : T4 α) : Nat → Ctx α := ctxS M eqs jt0 [⟨28, S2, F0⟩, ⟨33, S3, F1⟩] []
def h34_b {α : Type} (F0 : T1 α) (F1 : T4 α) (k : Nat) (s : List Int) (s1 : Int) (s2 : Int) (most : Int) (r0 : Int → Int → Int → Option α) : Option α :=
  F0 k s s1 s2 14 fun v v1 v2 =>
  bif decide (v = 0) then
    F1 k s v1 v2 [(-1), (w64 (most + 1)), 1099511627776, (-4611686018427387904)] fun v3 v4 v5 =>
    r0 v3 v4 v5
  else
    F0 k s v1 v2 (w64 (most + 1)) fun v6 v7 v8 =>
    r0 v6 v7 v8
theorem h34_g {α : Type} (F0 : T1 α) (F1 : T4 α) (n : Nat) : GenF (α := α) Try.prog Try.f34 S2 (h34_x F0 F1 n) n (h34_b F0 F1) := by intro _ _ _ _ _; kernel_rfl
theorem h34_good {α : Type} : ∀ n, GoodFn (α := α) Try.prog 34 (byShape S2.sh (callS S2 spec_l01Near n)) := good_of Try.func34 (by kernel_rfl) (by kernel_rfl) (by kernel_rfl) eqs_ok (fun n => h34_g spec_l01Next spec_l01Pick n) (by delta h34_b spec_l01Near; rfl) (allC h28_good (allC h33_good allN)) allN

/-! loop.example/g01297/spec.DrawTriangleOf -/
abbrev h11_x {α : Type} (F0 : T8 α) (F1 : T1 α) (F2 : T1 α) (F3 : T4 α) : Nat → Ctx α := ctxS M eqs jt0 [⟨23, S1, F0⟩, ⟨28, S2, F1⟩, ⟨34, S2, F2⟩, ⟨33, S3, F3⟩] []
def h11_b {α : Type} (F0 : T8 α) (F1 : T1 α) (F2 : T1 α) (F3 : T4 α) (k : Nat) (code : List Int) (r0 : Int → Int → Int → Option α) : Option α :=
  F0 k code fun v v1 =>
  F1 k code v v1 6 fun v2 v3 v4 =>
  F1 k code v3 v4 9 fun v5 v6 v7 =>
  F2 k code v6 v7 1000 fun v8 v9 v10 =>
  F3 k code v9 v10 [(w64 (1 + v5)), v8] fun v11 v12 v13 =>
  F1 k code v12 v13 12 fun v14 v15 v16 =>
  F1 k code v15 v16 (w64 ((max v11 1) + (w64 (Int.tdiv v14 11)))) fun v17 v18 v19 =>
  F1 k code v18 v19 24 fun v20 v21 v22 =>
  bif decide (v20 = 0) then
    F3 k code v21 v22 [0, 1000, 1001] fun v23 _ _ =>
    r0 v23 v17 v11
  else
    r0 (w64 (1 + v2)) v17 v11
theorem h11_g {α : Type} (F0 : T8 α) (F1 : T1 α) (F2 : T1 α) (F3 : T4 α) (n : Nat) : GenF (α := α) Try.prog Try.f11 S29 (h11_x F0 F1 F2 F3 n) n (h11_b F0 F1 F2 F3) := by intro _ _; kernel_rfl
theorem h11_good {α : Type} : ∀ n, GoodFn (α := α) Try.prog 11 (byShape S29.sh (callS S29 spec_DrawTriangleOf n)) := good_of Try.func11 (by kernel_rfl) (by kernel_rfl) (by kernel_rfl) eqs_ok (fun n => h11_g spec_l01From spec_l01Next spec_l01Near spec_l01Pick n) (by delta h11_b spec_DrawTriangleOf; rfl) (allC h23_good (allC h28_good (allC h34_good (allC h33_good allN)))) allN

/-! (loop.example/g01297/impl.Shape).triangle -/
abbrev h35_x {α : Type}  : Nat → Ctx α := ctxS M eqs jt0 [] []
def h35_b {α : Type}  (_ : Nat) (x : Int) (x1 : Int) (x2 : Int) (r0 : Int → Int → Int → Int → Int → Int → Option α) : Option α :=
  r0 0 0 x 0 x1 x2
theorem h35_g {α : Type}  (n : Nat) : GenF (α := α) Try.prog Try.f35 S30 (h35_x n) n (h35_b) := by intro _ _ _ _; kernel_rfl
theorem h35_good {α : Type} : ∀ n, GoodFn (α := α) Try.prog 35 (byShape S30.sh (callS S30 impl_Shape_triangle n)) := good_of Try.func35 (by kernel_rfl) (by kernel_rfl) (by kernel_rfl) eqs_ok (fun n => h35_g n) (by delta h35_b impl_Shape_triangle; rfl) allN allN

/-! loop.example/g01297/impl.TriangleOf -/
abbrev h12_x {α : Type} (F0 : T9 α) (F1 : T26 α) : Nat → Ctx α := ctxS M eqs jt0 [⟨29, S10, F0⟩, ⟨35, S30, F1⟩] []
def h12_b {α : Type} (F0 : T9 α) (F1 : T26 α) (k : Nat) (x : Int) (x1 : Int) (x2 : Int) (r0 : Int → Int → Int → Int → Int → Int → Int → Option α) : Option α :=
  F0 k x 1 1000 fun v =>
  bif (!v) then
    r0 0 0 0 0 0 0 2
  else
    F0 k x2 1 1000 fun v1 =>
    bif (!v1) then
      r0 0 0 0 0 0 0 2
    else
      F0 k x1 0 (w64 (x2 - 1)) fun v2 =>
      bif (!v2) then
        r0 0 0 0 0 0 0 2
      else
        F1 k x x1 x2 fun v3 v4 v5 v6 v7 v8 =>
        r0 v3 v4 v5 v6 v7 v8 0
theorem h12_g {α : Type} (F0 : T9 α) (F1 : T26 α) (n : Nat) : GenF (α := α) Try.prog Try.f12 S31 (h12_x F0 F1 n) n (h12_b F0 F1) := by intro _ _ _ _; kernel_rfl
theorem h12_good {α : Type} : ∀ n, GoodFn (α := α) Try.prog 12 (byShape S31.sh (callS S31 impl_TriangleOf n)) := good_of Try.func12 (by kernel_rfl) (by kernel_rfl) (by kernel_rfl) eqs_ok (fun n => h12_g impl_in impl_Shape_triangle n) (by delta h12_b impl_TriangleOf; rfl) (allC h29_good (allC h35_good allN)) allN

/-! loop.example/g01297/spec.l04Of -/
abbrev h36_x {α : Type}  : Nat → Ctx α := ctxS M eqs jt0 [] []
def h36_b {α : Type}  (_ : Nat) (x : Int) (x1 : Int) (x2 : Int) (r0 : Int → Int → Int → Int → Int → Int → Option α) : Option α :=
  r0 0 0 x 0 x1 x2
theorem h36_g {α : Type}  (n : Nat) : GenF (α := α) Try.prog Try.f36 S30 (h36_x n) n (h36_b) := by intro _ _ _ _; kernel_rfl
theorem h36_good {α : Type} : ∀ n, GoodFn (α := α) Try.prog 36 (byShape S30.sh (callS S30 spec_l04Of n)) := good_of Try.func36 (by kernel_rfl) (by kernel_rfl) (by kernel_rfl) eqs_ok (fun n => h36_g n) (by delta h36_b spec_l04Of; rfl) allN allN

/-! loop.example/g01297/spec.TriangleOf -/
abbrev h13_x {α : Type} (F0 : T9 α) (F1 : T26 α) : Nat → Ctx α := ctxS M eqs jt0 [⟨31, S10, F0⟩, ⟨36, S30, F1⟩] []
def h13_b {α : Type} (F0 : T9 α) (F1 : T26 α) (k : Nat) (x : Int) (x1 : Int) (x2 : Int) (r0 : Int → Int → Int → Int → Int → Int → Int → Option α) : Option α :=
  F0 k x 1 1000 fun v =>
  bif (!v) then
    r0 0 0 0 0 0 0 2
  else
    F0 k x2 1 1000 fun v1 =>
    bif (!v1) then
      r0 0 0 0 0 0 0 2
    else
      F0 k x1 0 (w64 (x2 - 1)) fun v2 =>
      bif (!v2) then
        r0 0 0 0 0 0 0 2
      else
        F1 k x x1 x2 fun v3 v4 v5 v6 v7 v8 =>
        r0 v3 v4 v5 v6 v7 v8 0
theorem h13_g {α : Type} (F0 : T9 α) (F1 : T26 α) (n : Nat) : GenF (α := α) Try.prog Try.f13 S31 (h13_x F0 F1 n) n (h13_b F0 F1) := by intro _ _ _ _; kernel_rfl
theorem h13_good {α : Type} : ∀ n, GoodFn (α := α) Try.prog 13 (byShape S31.sh (callS S31 spec_TriangleOf n)) := good_of Try.func13 (by kernel_rfl) (by kernel_rfl) (by kernel_rfl) eqs_ok (fun n => h13_g spec_l01In spec_l04Of n) (by delta h13_b spec_TriangleOf; rfl) (allC h31_good (allC h36_good allN)) allN

/-! loop.example/g01297/spec.l04Small -/
abbrev h37_x {α : Type} (F0 : T5 α) (F1 : T6 α) (F2 : T7 α) (F3 : T1 α) : Nat → Ctx α := ctxS M eqs jt0 [⟨39, S4, F0⟩, ⟨51, S7, F1⟩, ⟨22, S8, F2⟩, ⟨28, S2, F3⟩] []
def h37_b {α : Type} (F0 : T5 α) (F1 : T6 α) (F2 : T7 α) (F3 : T1 α) (k : Nat) (s : List Int) (s1 : Int) (s2 : Int) (r0 : Int → Int → Int → Int → Int → Int → Int → Int → Option α) : Option α :=
  F0 k s s1 s2 12 fun v v1 v2 v3 =>
  F0 k s v2 v3 12 fun v4 v5 v6 v7 =>
  F0 k s v6 v7 12 fun v8 v9 v10 v11 =>
  F1 k v v1 v4 v5 v8 v9 fun v12 =>
  bif decide (v12 = 0) then
    F2 k s v10 v11 fun v13 v14 v15 v16 v17 v18 v19 v20 =>
    r0 v13 v14 v15 v16 v17 v18 v19 v20
  else
    F3 k s v10 v11 12 fun v21 v22 v23 =>
    bif decide (v21 = 0) then
      F2 k s v22 v23 fun v24 v25 v26 v27 v28 v29 v30 v31 =>
      r0 v24 v25 v26 v27 v28 v29 v30 v31
    else
      r0 v v1 v4 v5 v8 v9 v22 v23
theorem h37_g {α : Type} (F0 : T5 α) (F1 : T6 α) (F2 : T7 α) (F3 : T1 α) (n : Nat) : GenF (α := α) Try.prog Try.f37 S8 (h37_x F0 F1 F2 F3 n) n (h37_b F0 F1 F2 F3) := by intro _ _ _ _; kernel_rfl
theorem h37_good {α : Type} : ∀ n, GoodFn (α := α) Try.prog 37 (byShape S8.sh (callS S8 spec_l04Small n)) := good_of Try.func37 (by kernel_rfl) (by kernel_rfl) (by kernel_rfl) eqs_ok (fun n => h37_g spec_l01DrawPoint spec_l01Area spec_l04Spoil spec_l01Next n) (by delta h37_b spec_l04Small; rfl) (allC h39_good (allC h51_good (allC h22_good (allC h28_good allN)))) allN

/-! loop.example/g01297/spec.l01Times -/
abbrev h65_x {α : Type}  : Nat → Ctx α := ctxS M eqs jt0 [] []
def h65_b {α : Type}  (_ : Nat) (m : Int) (m1 : Int) (m2 : Int) (m3 : Int) (n_ : Int) (n_1 : Int) (n_2 : Int) (n_3 : Int) (r0 : Int → Int → Int → Int → Option α) : Option α :=
  r0 (w64 ((w64 (m * n_)) + (w64 (m1 * n_2)))) (w64 ((w64 (m * n_1)) + (w64 (m1 * n_3)))) (w64 ((w64 (m2 * n_)) + (w64 (m3 * n_2)))) (w64 ((w64 (m2 * n_1)) + (w64 (m3 * n_3))))
theorem h65_g {α : Type}  (n : Nat) : GenF (α := α) Try.prog Try.f65 S32 (h65_x n) n (h65_b) := by intro _ _ _ _ _ _ _ _ _; kernel_rfl
theorem h65_good {α : Type} : ∀ n, GoodFn (α := α) Try.prog 65 (byShape S32.sh (callS S32 spec_l01Times n)) := good_of Try.func65 (by kernel_rfl) (by kernel_rfl) (by kernel_rfl) eqs_ok (fun n => h65_g n) (by delta h65_b spec_l01Times; rfl) allN allN

/-! loop.example/g01297/spec.l01DrawUnit -/
def h38_t3 : Tpl := ⟨(.ptr 0 0 0 :: (.any :: (.ptr 128 0 0 :: (.ptr 192 0 0 :: (.int .i64 :: (anyN 37 [])))))), [(0, .mix 1 76 [.sl 1, .int .i64, .int .u64]), (128, .ints 2 63 .i64 4), (192, .ints 2 63 .i64 4), (1, .rows 0 5 (.int .u8))], [], false⟩
def h38_p3 : PcS := loopS [.int, .int, .int, .int, .int, .int, .int, .int, .int, .int, .int, .rows (.int .u8)] [0]
abbrev h38_x {α : Type} (F0 : T1 α) (F1 : T27 α) (G3 : T28 α) : Nat → Ctx α := ctxS M eqs jt0 [⟨28, S2, F0⟩, ⟨65, S32, F1⟩] [lpT 3 h38_t3 h38_p3 R13 G3]
def h38_b3 {α : Type} (F0 : T1 α) (F1 : T27 α) (G3 : T28 α) (k : Nat) (n_ : Int) (s3 : Int) (s4 : Int) (x : Int) (x1 : Int) (x2 : Int) (x3 : Int) (out : Int) (out1 : Int) (out2 : Int) (out3 : Int) (b_ : List Int) (b0 : Int → Int → Int → Int → Int → Int → Int → Int → Int → Int → Int → List Int → Option α) (r0 : Int → Int → Int → Int → Int → Int → Option α) : Option α :=
  bif decide (0 < n_) then
    F0 k b_ s3 s4 7 fun v3 v4 v5 =>
    F0 k b_ v4 v5 3 fun v6 v7 v8 =>
    bif decide (v6 = 0) then
      F1 k out out1 out2 out3 1 (w64 (v3 - 3)) 0 1 fun v9 v10 v11 v12 =>
      G3 k (w64 (n_ - 1)) v7 v8 x x1 x2 x3 v9 v10 v11 v12 b_ b0 r0
    else
    bif decide (v6 = 1) then
      F1 k out out1 out2 out3 1 0 (w64 (v3 - 3)) 1 fun v13 v14 v15 v16 =>
      G3 k (w64 (n_ - 1)) v7 v8 x x1 x2 x3 v13 v14 v15 v16 b_ b0 r0
    else
      F1 k out out1 out2 out3 0 1 1 0 fun v17 v18 v19 v20 =>
      G3 k (w64 (n_ - 1)) v7 v8 x x1 x2 x3 v17 v18 v19 v20 b_ b0 r0
  else
    b0 n_ s3 s4 x x1 x2 x3 out out1 out2 out3 b_
theorem h38_g3 {α : Type} (F0 : T1 α) (F1 : T27 α) (G3 : T28 α) (n : Nat) : GenL (α := α) Try.prog Try.f38 S33 (h38_x F0 F1 G3 n) 3 h38_t3 h38_p3 n G3 (h38_b3 F0 F1 G3) := by intro _ _ _ _ _ _ _ _ _ _ _ _ _ _ _ _ _; kernel_rfl
def h38_b {α : Type} (F0 : T1 α) (G3 : T28 α) (k : Nat) (s : List Int) (s1 : Int) (s2 : Int) (r0 : Int → Int → Int → Int → Int → Int → Option α) : Option α :=
  F0 k s s1 s2 5 fun v v1 v2 =>
  G3 k v v1 v2 0 0 0 0 1 0 0 1 s
    (fun _ s5 s6 _ _ _ _ out4 out5 out6 out7 _ =>
      r0 out4 out5 out6 out7 s5 s6)
    r0
theorem h38_g {α : Type} (F0 : T1 α) (F1 : T27 α) (G3 : T28 α) (n : Nat) : GenF (α := α) Try.prog Try.f38 S33 (h38_x F0 F1 G3 n) n (h38_b F0 G3) := by intro _ _ _ _; kernel_rfl
theorem h38_good {α : Type} : ∀ n, GoodFn (α := α) Try.prog 38 (byShape S33.sh (callS S33 spec_l01DrawUnit n)) := good_of Try.func38 (by kernel_rfl) (by kernel_rfl) (by kernel_rfl) eqs_ok (fun n => h38_g spec_l01Next spec_l01Times spec_l01DrawUnit_l3 n) (by delta h38_b spec_l01DrawUnit; rfl) (allC h28_good (allC h65_good allN)) (allC (loop_fine (by kernel_rfl) (fun n => by delta h38_b3; funext _ _ _ _ _ _ _ _ _ _ _ _ _ _; exact (spec_l01DrawUnit_l3.eq_2 ..).symm) (fun n => h38_g3 spec_l01Next spec_l01Times spec_l01DrawUnit_l3 n)) allN)

/-! loop.example/g01297/spec.l01Apply -/
abbrev h41_x {α : Type}  : Nat → Ctx α := ctxS M eqs jt0 [] []
def h41_b {α : Type}  (_ : Nat) (m : Int) (m1 : Int) (m2 : Int) (m3 : Int) (a : Int) (a1 : Int) (r0 : Int → Int → Option α) : Option α :=
  r0 (w64 ((w64 (m * a)) + (w64 (m1 * a1)))) (w64 ((w64 (m2 * a)) + (w64 (m3 * a1))))
theorem h41_g {α : Type}  (n : Nat) : GenF (α := α) Try.prog Try.f41 S34 (h41_x n) n (h41_b) := by intro _ _ _ _ _ _ _; kernel_rfl
theorem h41_good {α : Type} : ∀ n, GoodFn (α := α) Try.prog 41 (byShape S34.sh (callS S34 spec_l01Apply n)) := good_of Try.func41 (by kernel_rfl) (by kernel_rfl) (by kernel_rfl) eqs_ok (fun n => h41_g n) (by delta h41_b spec_l01Apply; rfl) allN allN

/-! loop.example/g01297/spec.DrawAreEqualTriangles -/
abbrev h14_x {α : Type} (F0 : T8 α) (F1 : T7 α) (F2 : T29 α) (F3 : T5 α) (F4 : T30 α) (F5 : T2 α) (F6 : T23 α) (F7 : T1 α) : Nat → Ctx α := ctxS M eqs jt0 [⟨23, S1, F0⟩, ⟨37, S8, F1⟩, ⟨38, S33, F2⟩, ⟨39, S4, F3⟩, ⟨41, S34, F4⟩, ⟨40, S5, F5⟩, ⟨26, S14, F6⟩, ⟨28, S2, F7⟩] []
def h14_b {α : Type} (F0 : T8 α) (F1 : T7 α) (F2 : T29 α) (F3 : T5 α) (F4 : T30 α) (F5 : T2 α) (F6 : T23 α) (F7 : T1 α) (k : Nat) (code : List Int) (r0 : Int → Int → Int → Int → Int → Int → Int → Int → Int → Int → Int → Int → Option α) : Option α :=
  F0 k code fun v v1 =>
  F1 k code v v1 fun v2 v3 v4 v5 v6 v7 v8 v9 =>
  F2 k code v8 v9 fun v10 v11 v12 v13 v14 v15 =>
  F3 k code v14 v15 5 fun v16 v17 v18 v19 =>
  F4 k v10 v11 v12 v13 v2 v3 fun v20 v21 =>
  F5 k v20 v21 v16 v17 1 fun v22 v23 =>
  F4 k v10 v11 v12 v13 v4 v5 fun v24 v25 =>
  F5 k v24 v25 v16 v17 1 fun v26 v27 =>
  F4 k v10 v11 v12 v13 v6 v7 fun v28 v29 =>
  F5 k v28 v29 v16 v17 1 fun v30 v31 =>
  F6 k v30 v31 v22 v23 v26 v27 fun v32 =>
  bif (!v32) then
    F1 k code v18 v19 fun v33 v34 v35 v36 v37 v38 _ _ =>
    r0 v2 v3 v4 v5 v6 v7 v33 v34 v35 v36 v37 v38
  else
    F7 k code v18 v19 3 fun v41 v42 v43 =>
    bif decide (v41 = 0) then
      F1 k code v42 v43 fun v44 v45 v46 v47 v48 v49 _ _ =>
      r0 v2 v3 v4 v5 v6 v7 v44 v45 v46 v47 v48 v49
    else
      r0 v2 v3 v4 v5 v6 v7 v30 v31 v22 v23 v26 v27
theorem h14_g {α : Type} (F0 : T8 α) (F1 : T7 α) (F2 : T29 α) (F3 : T5 α) (F4 : T30 α) (F5 : T2 α) (F6 : T23 α) (F7 : T1 α) (n : Nat) : GenF (α := α) Try.prog Try.f14 S35 (h14_x F0 F1 F2 F3 F4 F5 F6 F7 n) n (h14_b F0 F1 F2 F3 F4 F5 F6 F7) := by intro _ _; kernel_rfl
theorem h14_good {α : Type} : ∀ n, GoodFn (α := α) Try.prog 14 (byShape S35.sh (callS S35 spec_DrawAreEqualTriangles n)) := good_of Try.func14 (by kernel_rfl) (by kernel_rfl) (by kernel_rfl) eqs_ok (fun n => h14_g spec_l01From spec_l04Small spec_l01DrawUnit spec_l01DrawPoint spec_l01Apply spec_l01Plus spec_l04Is spec_l01Next n) (by delta h14_b spec_DrawAreEqualTriangles; rfl) (allC h23_good (allC h37_good (allC h38_good (allC h39_good (allC h41_good (allC h40_good (allC h26_good (allC h28_good allN)))))))) allN

/-! loop.example/g01297/impl.AreEqualTriangles -/
abbrev h15_x {α : Type} (F0 : T23 α) (F1 : T24 α) : Nat → Ctx α := ctxS M eqs jt0 [⟨24, S14, F0⟩, ⟨25, S24, F1⟩] []
def h15_b {α : Type} (F0 : T23 α) (F1 : T24 α) (k : Nat) (t : Int) (t1 : Int) (t2 : Int) (t3 : Int) (t4 : Int) (t5 : Int) (u : Int) (u1 : Int) (u2 : Int) (u3 : Int) (u4 : Int) (u5 : Int) (r0 : Bool → Int → Option α) : Option α :=
  F0 k t t1 t2 t3 t4 t5 fun v =>
  bif (!v) then
    r0 false 1
  else
    F0 k u u1 u2 u3 u4 u5 fun v1 =>
    bif (!v1) then
      r0 false 1
    else
      F1 k t t1 t2 t3 t4 t5 fun v2 v3 v4 =>
      F1 k u u1 u2 u3 u4 u5 fun v5 v6 v7 =>
      r0 (decide (v2 = v5) && (decide (v3 = v6) && decide (v4 = v7))) 0
theorem h15_g {α : Type} (F0 : T23 α) (F1 : T24 α) (n : Nat) : GenF (α := α) Try.prog Try.f15 S36 (h15_x F0 F1 n) n (h15_b F0 F1) := by intro _ _ _ _ _ _ _ _ _ _ _ _ _; kernel_rfl
theorem h15_good {α : Type} : ∀ n, GoodFn (α := α) Try.prog 15 (byShape S36.sh (callS S36 impl_AreEqualTriangles n)) := good_of Try.func15 (by kernel_rfl) (by kernel_rfl) (by kernel_rfl) eqs_ok (fun n => h15_g impl_IsTriangle impl_Triangle_normal n) (by delta h15_b impl_AreEqualTriangles; rfl) (allC h24_good (allC h25_good allN)) allN

/-! loop.example/g01297/spec.AreEqualTriangles -/
abbrev h16_x {α : Type} (F0 : T23 α) (F1 : T24 α) : Nat → Ctx α := ctxS M eqs jt0 [⟨26, S14, F0⟩, ⟨27, S24, F1⟩] []
def h16_b {α : Type} (F0 : T23 α) (F1 : T24 α) (k : Nat) (t : Int) (t1 : Int) (t2 : Int) (t3 : Int) (t4 : Int) (t5 : Int) (u : Int) (u1 : Int) (u2 : Int) (u3 : Int) (u4 : Int) (u5 : Int) (r0 : Bool → Int → Option α) : Option α :=
  F0 k t t1 t2 t3 t4 t5 fun v =>
  bif (!v) then
    r0 false 1
  else
    F0 k u u1 u2 u3 u4 u5 fun v1 =>
    bif (!v1) then
      r0 false 1
    else
      F1 k t t1 t2 t3 t4 t5 fun v2 v3 v4 =>
      F1 k u u1 u2 u3 u4 u5 fun v5 v6 v7 =>
      r0 (decide (v2 = v5) && (decide (v3 = v6) && decide (v4 = v7))) 0
theorem h16_g {α : Type} (F0 : T23 α) (F1 : T24 α) (n : Nat) : GenF (α := α) Try.prog Try.f16 S36 (h16_x F0 F1 n) n (h16_b F0 F1) := by intro _ _ _ _ _ _ _ _ _ _ _ _ _; kernel_rfl
theorem h16_good {α : Type} : ∀ n, GoodFn (α := α) Try.prog 16 (byShape S36.sh (callS S36 spec_AreEqualTriangles n)) := good_of Try.func16 (by kernel_rfl) (by kernel_rfl) (by kernel_rfl) eqs_ok (fun n => h16_g spec_l04Is spec_l04Normal n) (by delta h16_b spec_AreEqualTriangles; rfl) (allC h26_good (allC h27_good allN)) allN

/-! loop.example/g01297/spec.DrawTrianglesOfArea -/
abbrev h17_x {α : Type} (F0 : T8 α) (F1 : T1 α) (F2 : T1 α) (F3 : T4 α) : Nat → Ctx α := ctxS M eqs jt0 [⟨23, S1, F0⟩, ⟨28, S2, F1⟩, ⟨34, S2, F2⟩, ⟨33, S3, F3⟩] []
def h17_b {α : Type} (F0 : T8 α) (F1 : T1 α) (F2 : T1 α) (F3 : T4 α) (k : Nat) (code : List Int) (r0 : Int → Option α) : Option α :=
  F0 k code fun v v1 =>
  F1 k code v v1 20 fun v2 v3 v4 =>
  F1 k code v3 v4 60 fun v5 v6 v7 =>
  F2 k code v6 v7 200 fun v8 v9 v10 =>
  F3 k code v9 v10 [(w64 (1 + v2)), v5, v8] fun v11 _ _ =>
  r0 v11
theorem h17_g {α : Type} (F0 : T8 α) (F1 : T1 α) (F2 : T1 α) (F3 : T4 α) (n : Nat) : GenF (α := α) Try.prog Try.f17 S37 (h17_x F0 F1 F2 F3 n) n (h17_b F0 F1 F2 F3) := by intro _ _; kernel_rfl
theorem h17_good {α : Type} : ∀ n, GoodFn (α := α) Try.prog 17 (byShape S37.sh (callS S37 spec_DrawTrianglesOfArea n)) := good_of Try.func17 (by kernel_rfl) (by kernel_rfl) (by kernel_rfl) eqs_ok (fun n => h17_g spec_l01From spec_l01Next spec_l01Near spec_l01Pick n) (by delta h17_b spec_DrawTrianglesOfArea; rfl) (allC h23_good (allC h28_good (allC h34_good (allC h33_good allN)))) allN

/-! slices.SortFunc[[]loop.example/g01297/impl.Shape,loop.example/g01297/impl.Shape] -/
def h42_lay_ren : Go.Shelf.Ren := ⟨fun | 6 => 42 | 15 => 67 | 14 => 66 | 28 => 84 | 29 => 85 | 20 => 76 | 21 => 77 | 22 => 78 | 23 => 79 | 24 => 80 | 25 => 81 | 26 => 82 | 27 => 83 | 46 => 88 | 47 => 89 | 48 => 90 | 49 => 91 | 50 => 92 | 57 => 93 | n => n, fun | 22 => 44 | 24 => 30 | 25 => 69 | 3 => 3 | 39 => 80 | 0 => 0 | 53 => 102 | 55 => 74 | 4 => 4 | 46 => 95 | 45 => 94 | 50 => 99 | 5 => 5 | 9 => 9 | 66 => 107 | 70 => 111 | 76 => 113 | 77 => 114 | n => n, fun | n => n⟩

theorem h42_lay : Go.Proofs.SlLaysF0.n6 Try.prog h42_lay_ren := {
  mixed := by kernel_rfl,
  f6 := ⟨Try.f42.name, by decide, Try.func42.trans (congrArg some (by kernel_rfl))⟩,
  f14 := ⟨Try.f66.name, by decide, Try.func66.trans (congrArg some (by kernel_rfl))⟩,
  f15 := Try.func67.trans (congrArg some (by kernel_rfl)),
  f20 := ⟨Try.f76.name, by decide, Try.func76.trans (congrArg some (by kernel_rfl))⟩,
  f21 := ⟨Try.f77.name, by decide, Try.func77.trans (congrArg some (by kernel_rfl))⟩,
  f22 := ⟨Try.f78.name, by decide, Try.func78.trans (congrArg some (by kernel_rfl))⟩,
  f23 := ⟨Try.f79.name, by decide, Try.func79.trans (congrArg some (by kernel_rfl))⟩,
  f24 := ⟨Try.f80.name, by decide, Try.func80.trans (congrArg some (by kernel_rfl))⟩,
  f25 := ⟨Try.f81.name, by decide, Try.func81.trans (congrArg some (by kernel_rfl))⟩,
  f26 := ⟨Try.f82.name, by decide, Try.func82.trans (congrArg some (by kernel_rfl))⟩,
  f27 := ⟨Try.f83.name, by decide, Try.func83.trans (congrArg some (by kernel_rfl))⟩,
  f28 := Try.func84.trans (congrArg some (by kernel_rfl)),
  f29 := Try.func85.trans (congrArg some (by kernel_rfl)),
  f46 := ⟨Try.f88.name, by decide, Try.func88.trans (congrArg some (by kernel_rfl))⟩,
  f47 := Try.func89.trans (congrArg some (by kernel_rfl)),
  f48 := Try.func90.trans (congrArg some (by kernel_rfl)),
  f49 := ⟨Try.f91.name, by decide, Try.func91.trans (congrArg some (by kernel_rfl))⟩,
  f50 := ⟨Try.f92.name, by decide, Try.func92.trans (congrArg some (by kernel_rfl))⟩,
  f57 := ⟨Try.f93.name, by decide, Try.func93.trans (congrArg some (by kernel_rfl))⟩,
  t0 := Try.underlying0,
  a0 := Try.isAgg0,
  z0 := Try.sizeOf0,
  v0 := Try.zeroValue0,
  t3 := Try.underlying3,
  a3 := Try.isAgg3,
  z3 := Try.sizeOf3,
  v3 := Try.zeroValue3,
  t4 := Try.underlying4,
  a4 := Try.isAgg4,
  z4 := Try.sizeOf4,
  v4 := Try.zeroValue4,
  t5 := Try.underlying5,
  a5 := Try.isAgg5,
  z5 := Try.sizeOf5,
  v5 := Try.zeroValue5,
  t9 := Try.underlying9,
  a9 := Try.isAgg9,
  z9 := Try.sizeOf9,
  v9 := Try.zeroValue9,
  t22 := Try.underlying44,
  a22 := Try.isAgg44,
  z22 := Try.sizeOf44,
  v22 := Try.zeroValue44,
  t25 := Try.underlying69,
  a25 := Try.isAgg69,
  z25 := Try.sizeOf69,
  v25 := Try.zeroValue69,
  t39 := Try.underlying80,
  a39 := Try.isAgg80,
  z39 := Try.sizeOf80,
  v39 := Try.zeroValue80,
  t45 := Try.underlying94,
  a45 := Try.isAgg94,
  z45 := Try.sizeOf94,
  v45 := Try.zeroValue94,
  t46 := Try.underlying95,
  a46 := Try.isAgg95,
  z46 := Try.sizeOf95,
  v46 := Try.zeroValue95,
  t50 := Try.underlying99,
  a50 := Try.isAgg99,
  z50 := Try.sizeOf99,
  v50 := Try.zeroValue99,
  t53 := Try.underlying102,
  a53 := Try.isAgg102,
  z53 := Try.sizeOf102,
  v53 := Try.zeroValue102,
  t55 := Try.underlying74,
  a55 := Try.isAgg74,
  z55 := Try.sizeOf74,
  v55 := Try.zeroValue74,
  t66 := Try.underlying107,
  a66 := Try.isAgg107,
  z66 := Try.sizeOf107,
  v66 := Try.zeroValue107,
  t70 := Try.underlying111,
  a70 := Try.isAgg111,
  z70 := Try.sizeOf111,
  v70 := Try.zeroValue111,
  t76 := Try.underlying113,
  a76 := Try.isAgg113,
  z76 := Try.sizeOf113,
  v76 := Try.zeroValue113,
  t77 := Try.underlying114,
  a77 := Try.isAgg114,
  z77 := Try.sizeOf114,
  v77 := Try.zeroValue114 }

theorem h42_good {α : Type} : ∀ n, GoodFn (α := α) Try.prog 42 (byShape S38.sh (callS S38 slices_SortFunc_impl_Shape_impl_Shape_1F_impl_shapeOrder n)) := sort_good (t := .tr) h42_lay rfl Try.isAgg30 Try.sizeOf30 (h43_good (α := Int)) (by intro _ _ _; kernel_rfl) (fun _ _ _ => rfl)

/-! slices.Compact[[]loop.example/g01297/impl.Shape,loop.example/g01297/impl.Shape] -/
def h44_t9 : Tpl := ⟨(.sl 0 :: (.any :: (.any :: (.int .i64 :: (.sub 0 :: (.int .i64 :: (anyN 55 []))))))), [(0, .rows 1 30 .tr)], [], false⟩
def h44_p9 : PcS := loopS [.int, .nat, .nat, .int, .rows .tr] [2]
def h44_t4 : Tpl := ⟨(.sl 0 :: (.any :: (.any :: (.int .i64 :: (anyN 57 []))))), [(0, .rows 1 30 .tr)], [], false⟩
def h44_p4 : PcS := loopS [.int, .rows .tr] [0]
abbrev h44_x {α : Type} (G9 : T31 α) (G4 : T32 α) : Nat → Ctx α := ctxS M eqs jt0 [] [lpT 9 h44_t9 h44_p9 R17 G9, lpT 4 h44_t4 h44_p4 R17 G4]
def h44_b9 {α : Type} (G9 : T31 α) (k : Nat) (k_1 : Int) (s2_ : Nat) (s2_1 : Nat) (k2_ : Int) (s2 : List (Int × Int × Int)) (b2 : Int → Nat → Nat → Int → (List (Int × Int × Int)) → Option α) (r0 : (List (Int × Int × Int)) → Option α) : Option α :=
  bif decide (k2_ < ((s2_1 : Nat) : Int)) then
    bif (decide (0 ≤ k2_) && decide (k2_ < ((s2_1 : Nat) : Int))) then
      (s2[(moved s2_ k2_.toNat 1)]?).bind fun e_2 =>
      bif (decide (0 ≤ (w64 (k2_ - 1))) && decide ((w64 (k2_ - 1)) < ((s2_1 : Nat) : Int))) then
        (s2[(moved s2_ ((w64 (k2_ - 1)).toNat) 1)]?).bind fun e_3 =>
        bif (!(decide (e_2.1 = e_3.1) && (decide (e_2.2.1 = e_3.2.1) && decide (e_2.2.2 = e_3.2.2)))) then
          bif (decide (0 ≤ k2_) && decide (k2_ < ((s2_1 : Nat) : Int))) then
            (s2[(moved s2_ k2_.toNat 1)]?).bind fun e_4 =>
            bif (decide (0 ≤ k_1) && decide (k_1 < (((List.length s2) : Nat) : Int))) then
              (s2[k_1.toNat]?).bind fun _ =>
              G9 k (w64 (k_1 + 1)) s2_ s2_1 (w64 (k2_ + 1)) (List.set s2 k_1.toNat (e_4.1, e_4.2.1, e_4.2.2)) b2 r0
            else
              none
          else
            none
        else
          G9 k k_1 s2_ s2_1 (w64 (k2_ + 1)) s2 b2 r0
      else
        none
    else
      none
  else
    b2 k_1 s2_ s2_1 k2_ s2
theorem h44_g9 {α : Type} (G9 : T31 α) (G4 : T32 α) (n : Nat) : GenL (α := α) Try.prog Try.f44 S39 (h44_x G9 G4 n) 9 h44_t9 h44_p9 n G9 (h44_b9 G9) := by intro _ _ _ _ _ _ _ _; kernel_rfl
def h44_b4 {α : Type} (G9 : T31 α) (G4 : T32 α) (k : Nat) (k_ : Int) (s1 : List (Int × Int × Int)) (b0 : Int → (List (Int × Int × Int)) → Option α) (r0 : (List (Int × Int × Int)) → Option α) : Option α :=
  bif decide (k_ < (((List.length s1) : Nat) : Int)) then
    bif (decide (0 ≤ k_) && decide (k_ < (((List.length s1) : Nat) : Int))) then
      (s1[k_.toNat]?).bind fun e_ =>
      bif (decide (0 ≤ (w64 (k_ - 1))) && decide ((w64 (k_ - 1)) < (((List.length s1) : Nat) : Int))) then
        (s1[(w64 (k_ - 1)).toNat]?).bind fun e_1 =>
        bif (decide (e_.1 = e_1.1) && (decide (e_.2.1 = e_1.2.1) && decide (e_.2.2 = e_1.2.2))) then
          bif (decide (0 ≤ k_) && decide (k_ ≤ (((List.length s1) : Nat) : Int))) then
            G9 k k_ k_.toNat ((List.length s1) - k_.toNat) 1 s1
              (fun k_2 _ _ _ s3 =>
                bif (decide (0 ≤ k_2) && decide (k_2 ≤ (((List.length s3) : Nat) : Int))) then
                  bif (decide (0 ≤ k_2) && decide (k_2 ≤ (((List.length (((List.take k_2.toNat s3) ++ (List.replicate ((List.length s3) - k_2.toNat) (0, 0, 0))) ++ (List.drop (k_2.toNat + ((List.length s3) - k_2.toNat)) s3))) : Nat) : Int))) then
                    r0 (List.take (k_2.toNat - 0) (((List.take k_2.toNat s3) ++ (List.replicate ((List.length s3) - k_2.toNat) (0, 0, 0))) ++ (List.drop (k_2.toNat + ((List.length s3) - k_2.toNat)) s3)))
                  else
                    none
                else
                  none)
              r0
          else
            none
        else
          G4 k (w64 (k_ + 1)) s1 b0 r0
      else
        none
    else
      none
  else
    b0 k_ s1
theorem h44_g4 {α : Type} (G9 : T31 α) (G4 : T32 α) (n : Nat) : GenL (α := α) Try.prog Try.f44 S39 (h44_x G9 G4 n) 4 h44_t4 h44_p4 n G4 (h44_b4 G9 G4) := by intro _ _ _ _ _; kernel_rfl
def h44_b {α : Type} (G4 : T32 α) (k : Nat) (s : List (Int × Int × Int)) (r0 : (List (Int × Int × Int)) → Option α) : Option α :=
  bif decide ((((List.length s) : Nat) : Int) < 2) then
    r0 s
  else
    G4 k 1 s
      (fun _ s4 =>
        r0 s4)
      r0
theorem h44_g {α : Type} (G9 : T31 α) (G4 : T32 α) (n : Nat) : GenF (α := α) Try.prog Try.f44 S39 (h44_x G9 G4 n) n (h44_b G4) := by intro _ _; kernel_rfl
theorem h44_good {α : Type} : ∀ n, GoodFn (α := α) Try.prog 44 (byShape S39.sh (callS S39 slices_Compact_impl_Shape_impl_Shape n)) := good_of Try.func44 (by kernel_rfl) (by kernel_rfl) (by kernel_rfl) eqs_ok (fun n => h44_g slices_Compact_impl_Shape_impl_Shape_l9 slices_Compact_impl_Shape_impl_Shape_l4 n) (by delta h44_b slices_Compact_impl_Shape_impl_Shape; rfl) allN (allC (loop_fine (by kernel_rfl) (fun n => by delta h44_b9; funext _ _ _ _ _ _ _; exact (slices_Compact_impl_Shape_impl_Shape_l9.eq_2 ..).symm) (fun n => h44_g9 slices_Compact_impl_Shape_impl_Shape_l9 slices_Compact_impl_Shape_impl_Shape_l4 n)) (allC (loop_fine (by kernel_rfl) (fun n => by delta h44_b4; funext _ _ _ _; exact (slices_Compact_impl_Shape_impl_Shape_l4.eq_2 ..).symm) (fun n => h44_g4 slices_Compact_impl_Shape_impl_Shape_l9 slices_Compact_impl_Shape_impl_Shape_l4 n)) allN))

/-! loop.example/g01297/impl.TrianglesOfArea -/
def h18_t9 : Tpl := ⟨(.int .i64 :: (.any :: (.any :: (.any :: (.sl 640 :: (.int .i64 :: (anyN 16 (.int .i64 :: (.int .i64 :: (anyN 18 [])))))))))), [(640, .rows 2 30 .tr)], [], false⟩
def h18_p9 : PcS := loopS [.int, .int, .int, .int, .rows .tr] [2]
def h18_t5 : Tpl := ⟨(.int .i64 :: (.any :: (.any :: (.any :: (.sl 640 :: (.int .i64 :: (anyN 36 []))))))), [(640, .rows 2 30 .tr)], [], false⟩
def h18_p5 : PcS := loopS [.int, .int, .rows .tr] [0]
abbrev h18_x {α : Type} (F0 : T9 α) (F1 : T26 α) (F2 : T24 α) (F3 : T33 α) (F4 : T33 α) (G9 : T34 α) (G5 : T35 α) : Nat → Ctx α := ctxS M eqs jt0 [⟨29, S10, F0⟩, ⟨35, S30, F1⟩, ⟨25, S24, F2⟩, ⟨42, S38, F3⟩, ⟨44, S39, F4⟩] [lpT 9 h18_t9 h18_p9 R18 G9, lpT 5 h18_t5 h18_p5 R18 G5]
def h18_b9 {α : Type} (F1 : T26 α) (F2 : T24 α) (G9 : T34 α) (k : Nat) (n_2 : Int) (long1 : Int) (x : Int) (x1 : Int) (out1 : List (Int × Int × Int)) (b2 : Int → Int → Int → Int → (List (Int × Int × Int)) → Option α) (r0 : Int → Option α) (r1 : (List (Int × Int × Int)) → Int → Option α) : Option α :=
  bif decide (x1 < x) then
    bif decide (long1 = 0) then
      none
    else
      F1 k long1 x1 (w64 (Int.tdiv n_2 long1)) fun v1 v2 v3 v4 v5 v6 =>
      F2 k v1 v2 v3 v4 v5 v6 fun v7 v8 v9 =>
      bif decide (((List.length out1) + 1) ≤ big) then
        G9 k n_2 long1 x (w64 (x1 + 1)) (out1 ++ [(v7, v8, v9)]) b2 r0 r1
      else
        none
  else
    b2 n_2 long1 x x1 out1
theorem h18_g9 {α : Type} (F0 : T9 α) (F1 : T26 α) (F2 : T24 α) (F3 : T33 α) (F4 : T33 α) (G9 : T34 α) (G5 : T35 α) (n : Nat) : GenL (α := α) Try.prog Try.f18 S40 (h18_x F0 F1 F2 F3 F4 G9 G5 n) 9 h18_t9 h18_p9 n G9 (h18_b9 F1 F2 G9) := by intro _ _ _ _ _ _ _; kernel_rfl
def h18_b5 {α : Type} (G9 : T34 α) (G5 : T35 α) (k : Nat) (n_1 : Int) (long : Int) (out : List (Int × Int × Int)) (b0 : Int → Int → (List (Int × Int × Int)) → Option α) (r0 : Int → Option α) (r1 : (List (Int × Int × Int)) → Int → Option α) : Option α :=
  bif decide (long ≤ n_1) then
    bif decide (long = 0) then
      none
    else
    bif (!decide ((Int.tmod n_1 long) = 0)) then
      G5 k n_1 (w64 (long + 1)) out b0 r0 r1
    else
    bif decide (long = 0) then
      none
    else
      G9 k n_1 long (w64 (Int.tdiv n_1 long)) 0 out
        (fun n_3 long2 _ _ out2 =>
          G5 k n_3 (w64 (long2 + 1)) out2 b0 r0 r1)
        r0 r1
  else
    b0 n_1 long out
theorem h18_g5 {α : Type} (F0 : T9 α) (F1 : T26 α) (F2 : T24 α) (F3 : T33 α) (F4 : T33 α) (G9 : T34 α) (G5 : T35 α) (n : Nat) : GenL (α := α) Try.prog Try.f18 S40 (h18_x F0 F1 F2 F3 F4 G9 G5 n) 5 h18_t5 h18_p5 n G5 (h18_b5 G9 G5) := by intro _ _ _ _ _; kernel_rfl
def h18_b {α : Type} (F0 : T9 α) (F3 : T33 α) (F4 : T33 α) (G5 : T35 α) (k : Nat) (n_ : Int) (r0 : Int → Option α) (r1 : (List (Int × Int × Int)) → Int → Option α) : Option α :=
  F0 k n_ 1 200 fun v =>
  bif (!v) then
    r0 2
  else
    G5 k n_ 1 []
      (fun _ _ out3 =>
        F3 k out3 fun v10 =>
        F4 k v10 fun v11 =>
        r1 v11 0)
      r0 r1
theorem h18_g {α : Type} (F0 : T9 α) (F1 : T26 α) (F2 : T24 α) (F3 : T33 α) (F4 : T33 α) (G9 : T34 α) (G5 : T35 α) (n : Nat) : GenF (α := α) Try.prog Try.f18 S40 (h18_x F0 F1 F2 F3 F4 G9 G5 n) n (h18_b F0 F3 F4 G5) := by intro _ _; kernel_rfl
theorem h18_good {α : Type} : ∀ n, GoodFn (α := α) Try.prog 18 (byShape S40.sh (callS S40 impl_TrianglesOfArea n)) := good_of Try.func18 (by kernel_rfl) (by kernel_rfl) (by kernel_rfl) eqs_ok (fun n => h18_g impl_in impl_Shape_triangle impl_Triangle_normal slices_SortFunc_impl_Shape_impl_Shape_1F_impl_shapeOrder slices_Compact_impl_Shape_impl_Shape impl_TrianglesOfArea_l9 impl_TrianglesOfArea_l5 n) (by delta h18_b impl_TrianglesOfArea; rfl) (allC h29_good (allC h35_good (allC h25_good (allC h42_good (allC h44_good allN))))) (allC (loop_fine (by kernel_rfl) (fun n => by delta h18_b9; funext _ _ _ _ _ _ _ _; exact (impl_TrianglesOfArea_l9.eq_2 ..).symm) (fun n => h18_g9 impl_in impl_Shape_triangle impl_Triangle_normal slices_SortFunc_impl_Shape_impl_Shape_1F_impl_shapeOrder slices_Compact_impl_Shape_impl_Shape impl_TrianglesOfArea_l9 impl_TrianglesOfArea_l5 n)) (allC (loop_fine (by kernel_rfl) (fun n => by delta h18_b5; funext _ _ _ _ _ _; exact (impl_TrianglesOfArea_l5.eq_2 ..).symm) (fun n => h18_g5 impl_in impl_Shape_triangle impl_Triangle_normal slices_SortFunc_impl_Shape_impl_Shape_1F_impl_shapeOrder slices_Compact_impl_Shape_impl_Shape impl_TrianglesOfArea_l9 impl_TrianglesOfArea_l5 n)) allN))

/-! loop.example/g01297/spec.TrianglesOfArea -/
def h19_t9 : Tpl := ⟨(.int .i64 :: (.any :: (.any :: (.any :: (.sl 704 :: (.int .i64 :: (.int .i64 :: (anyN 37 [])))))))), [(704, .rows 2 30 .tr)], [], false⟩
def h19_p9 : PcS := loopS [.int, .int, .int, .rows .tr] [2]
def h19_t5 : Tpl := ⟨(.int .i64 :: (.any :: (.any :: (.any :: (.sl 704 :: (.int .i64 :: (anyN 38 []))))))), [(704, .rows 2 30 .tr)], [], false⟩
def h19_p5 : PcS := loopS [.int, .int, .rows .tr] [0]
abbrev h19_x {α : Type} (F0 : T9 α) (F1 : T26 α) (F2 : T24 α) (G9 : T36 α) (G5 : T35 α) : Nat → Ctx α := ctxS M eqs jt0 [⟨31, S10, F0⟩, ⟨36, S30, F1⟩, ⟨27, S24, F2⟩] [lpT 9 h19_t9 h19_p9 R18 G9, lpT 5 h19_t5 h19_p5 R18 G5]
def h19_b9 {α : Type} (F1 : T26 α) (F2 : T24 α) (G9 : T36 α) (k : Nat) (n_2 : Int) (length1 : Int) (x : Int) (out1 : List (Int × Int × Int)) (b2 : Int → Int → Int → (List (Int × Int × Int)) → Option α) (r0 : Int → Option α) (r1 : (List (Int × Int × Int)) → Int → Option α) : Option α :=
  bif decide (length1 = 0) then
    none
  else
  bif decide (x < (w64 (Int.tdiv n_2 length1))) then
    bif decide (length1 = 0) then
      none
    else
      F1 k length1 x (w64 (Int.tdiv n_2 length1)) fun v1 v2 v3 v4 v5 v6 =>
      F2 k v1 v2 v3 v4 v5 v6 fun v7 v8 v9 =>
      bif (decide (v7 = length1) && (decide (v8 = x) && decide (v9 = (w64 (Int.tdiv n_2 length1))))) then
        bif decide (((List.length out1) + 1) ≤ big) then
          G9 k n_2 length1 (w64 (x + 1)) (out1 ++ [(length1, x, (w64 (Int.tdiv n_2 length1)))]) b2 r0 r1
        else
          none
      else
        G9 k n_2 length1 (w64 (x + 1)) out1 b2 r0 r1
  else
    b2 n_2 length1 x out1
theorem h19_g9 {α : Type} (F0 : T9 α) (F1 : T26 α) (F2 : T24 α) (G9 : T36 α) (G5 : T35 α) (n : Nat) : GenL (α := α) Try.prog Try.f19 S40 (h19_x F0 F1 F2 G9 G5 n) 9 h19_t9 h19_p9 n G9 (h19_b9 F1 F2 G9) := by intro _ _ _ _ _ _; kernel_rfl
def h19_b5 {α : Type} (G9 : T36 α) (G5 : T35 α) (k : Nat) (n_1 : Int) (length : Int) (out : List (Int × Int × Int)) (b0 : Int → Int → (List (Int × Int × Int)) → Option α) (r0 : Int → Option α) (r1 : (List (Int × Int × Int)) → Int → Option α) : Option α :=
  bif decide (length ≤ n_1) then
    bif decide (length = 0) then
      none
    else
    bif (!decide ((Int.tmod n_1 length) = 0)) then
      G5 k n_1 (w64 (length + 1)) out b0 r0 r1
    else
      G9 k n_1 length 0 out
        (fun n_3 length2 _ out2 =>
          G5 k n_3 (w64 (length2 + 1)) out2 b0 r0 r1)
        r0 r1
  else
    b0 n_1 length out
theorem h19_g5 {α : Type} (F0 : T9 α) (F1 : T26 α) (F2 : T24 α) (G9 : T36 α) (G5 : T35 α) (n : Nat) : GenL (α := α) Try.prog Try.f19 S40 (h19_x F0 F1 F2 G9 G5 n) 5 h19_t5 h19_p5 n G5 (h19_b5 G9 G5) := by intro _ _ _ _ _; kernel_rfl
def h19_b {α : Type} (F0 : T9 α) (G5 : T35 α) (k : Nat) (n_ : Int) (r0 : Int → Option α) (r1 : (List (Int × Int × Int)) → Int → Option α) : Option α :=
  F0 k n_ 1 200 fun v =>
  bif (!v) then
    r0 2
  else
    G5 k n_ 1 []
      (fun _ _ out3 =>
        r1 out3 0)
      r0 r1
theorem h19_g {α : Type} (F0 : T9 α) (F1 : T26 α) (F2 : T24 α) (G9 : T36 α) (G5 : T35 α) (n : Nat) : GenF (α := α) Try.prog Try.f19 S40 (h19_x F0 F1 F2 G9 G5 n) n (h19_b F0 G5) := by intro _ _; kernel_rfl
theorem h19_good {α : Type} : ∀ n, GoodFn (α := α) Try.prog 19 (byShape S40.sh (callS S40 spec_TrianglesOfArea n)) := good_of Try.func19 (by kernel_rfl) (by kernel_rfl) (by kernel_rfl) eqs_ok (fun n => h19_g spec_l01In spec_l04Of spec_l04Normal spec_TrianglesOfArea_l9 spec_TrianglesOfArea_l5 n) (by delta h19_b spec_TrianglesOfArea; rfl) (allC h31_good (allC h36_good (allC h27_good allN))) (allC (loop_fine (by kernel_rfl) (fun n => by delta h19_b9; funext _ _ _ _ _ _ _; exact (spec_TrianglesOfArea_l9.eq_2 ..).symm) (fun n => h19_g9 spec_l01In spec_l04Of spec_l04Normal spec_TrianglesOfArea_l9 spec_TrianglesOfArea_l5 n)) (allC (loop_fine (by kernel_rfl) (fun n => by delta h19_b5; funext _ _ _ _ _ _; exact (spec_TrianglesOfArea_l5.eq_2 ..).symm) (fun n => h19_g5 spec_l01In spec_l04Of spec_l04Normal spec_TrianglesOfArea_l9 spec_TrianglesOfArea_l5 n)) allN))

/-! loop.example/g01297/impl.ofTriangle -/
abbrev h45_x {α : Type} (F0 : T23 α) (F1 : T6 α) : Nat → Ctx α := ctxS M eqs jt0 [⟨24, S14, F0⟩, ⟨46, S18, F1⟩] []
def h45_b {α : Type} (F0 : T23 α) (F1 : T6 α) (k : Nat) (t : Int) (t1 : Int) (t2 : Int) (t3 : Int) (t4 : Int) (t5 : Int) (r0 : Int → Int → Option α) : Option α :=
  F0 k t t1 t2 t3 t4 t5 fun v =>
  bif (!v) then
    r0 0 1
  else
    F1 k t t1 t2 t3 t4 t5 fun v1 =>
    r0 v1 0
theorem h45_g {α : Type} (F0 : T23 α) (F1 : T6 α) (n : Nat) : GenF (α := α) Try.prog Try.f45 S41 (h45_x F0 F1 n) n (h45_b F0 F1) := by intro _ _ _ _ _ _ _; kernel_rfl
theorem h45_good {α : Type} : ∀ n, GoodFn (α := α) Try.prog 45 (byShape S41.sh (callS S41 impl_ofTriangle_1F_impl_Triangle_area n)) := good_of Try.func45 (by kernel_rfl) (by kernel_rfl) (by kernel_rfl) eqs_ok (fun n => h45_g impl_IsTriangle impl_Triangle_area n) (by delta h45_b impl_ofTriangle_1F_impl_Triangle_area; rfl) (allC h24_good (allC h46_good allN)) allN

/-! loop.example/g01297/impl.AreaOfTriangle -/
abbrev h20_x {α : Type} (F0 : T30 α) : Nat → Ctx α := ctxS M eqs jt0 [⟨45, S41, F0⟩] []
def h20_b {α : Type} (F0 : T30 α) (k : Nat) (t : Int) (t1 : Int) (t2 : Int) (t3 : Int) (t4 : Int) (t5 : Int) (r0 : Int → Int → Option α) : Option α :=
  F0 k t t1 t2 t3 t4 t5 fun v v1 =>
  r0 v v1
theorem h20_g {α : Type} (F0 : T30 α) (n : Nat) : GenF (α := α) Try.prog Try.f20 S42 (h20_x F0 n) n (h20_b F0) := by intro _ _ _ _ _ _ _; kernel_rfl
theorem h20_good {α : Type} : ∀ n, GoodFn (α := α) Try.prog 20 (byShape S42.sh (callS S42 impl_AreaOfTriangle n)) := good_of Try.func20 (by kernel_rfl) (by kernel_rfl) (by kernel_rfl) eqs_ok (fun n => h20_g impl_ofTriangle_1F_impl_Triangle_area n) (by delta h20_b impl_AreaOfTriangle; rfl) (allC h45_good allN) allN

/-! (loop.example/g01297/impl.Triangle).boundary -/
abbrev h47_x {α : Type} (F0 : T16 α) (F1 : T14 α) : Nat → Ctx α := ctxS M eqs jt0 [⟨53, S15, F0⟩, ⟨54, S17, F1⟩] []
def h47_b {α : Type} (F0 : T16 α) (F1 : T14 α) (k : Nat) (t : Int) (t1 : Int) (t2 : Int) (t3 : Int) (t4 : Int) (t5 : Int) (r0 : Int → Option α) : Option α :=
  F0 k t t1 t2 t3 t4 t5 0 1 fun v v1 =>
  F1 k v v1 fun v2 =>
  F0 k t t1 t2 t3 t4 t5 1 2 fun v3 v4 =>
  F1 k v3 v4 fun v5 =>
  F0 k t t1 t2 t3 t4 t5 2 0 fun v6 v7 =>
  F1 k v6 v7 fun v8 =>
  r0 (w64 ((w64 (v2 + v5)) + v8))
theorem h47_g {α : Type} (F0 : T16 α) (F1 : T14 α) (n : Nat) : GenF (α := α) Try.prog Try.f47 S18 (h47_x F0 F1 n) n (h47_b F0 F1) := by intro _ _ _ _ _ _ _; kernel_rfl
theorem h47_good {α : Type} : ∀ n, GoodFn (α := α) Try.prog 47 (byShape S18.sh (callS S18 impl_Triangle_boundary n)) := good_of Try.func47 (by kernel_rfl) (by kernel_rfl) (by kernel_rfl) eqs_ok (fun n => h47_g impl_Triangle_side impl_Point_length n) (by delta h47_b impl_Triangle_boundary; rfl) (allC h53_good (allC h54_good allN)) allN

/-! loop.example/g01297/impl.ofTriangle -/
abbrev h45a_x {α : Type} (F0 : T23 α) (F1 : T6 α) : Nat → Ctx α := ctxS M eqs jt0 [⟨24, S14, F0⟩, ⟨47, S18, F1⟩] []
def h45a_b {α : Type} (F0 : T23 α) (F1 : T6 α) (k : Nat) (t : Int) (t1 : Int) (t2 : Int) (t3 : Int) (t4 : Int) (t5 : Int) (r0 : Int → Int → Option α) : Option α :=
  F0 k t t1 t2 t3 t4 t5 fun v =>
  bif (!v) then
    r0 0 1
  else
    F1 k t t1 t2 t3 t4 t5 fun v1 =>
    r0 v1 0
theorem h45a_g {α : Type} (F0 : T23 α) (F1 : T6 α) (n : Nat) : GenF (α := α) Try.prog Try.f45 S43 (h45a_x F0 F1 n) n (h45a_b F0 F1) := by intro _ _ _ _ _ _ _; kernel_rfl
theorem h45a_good {α : Type} : ∀ n, GoodFn (α := α) Try.prog 45 (byShape S43.sh (callS S43 impl_ofTriangle_1F_impl_Triangle_boundary n)) := good_of Try.func45 (by kernel_rfl) (by kernel_rfl) (by kernel_rfl) eqs_ok (fun n => h45a_g impl_IsTriangle impl_Triangle_boundary n) (by delta h45a_b impl_ofTriangle_1F_impl_Triangle_boundary; rfl) (allC h24_good (allC h47_good allN)) allN

/-! loop.example/g01297/impl.BoundaryOf -/
abbrev h21_x {α : Type} (F0 : T30 α) : Nat → Ctx α := ctxS M eqs jt0 [⟨45, S43, F0⟩] []
def h21_b {α : Type} (F0 : T30 α) (k : Nat) (t : Int) (t1 : Int) (t2 : Int) (t3 : Int) (t4 : Int) (t5 : Int) (r0 : Int → Int → Option α) : Option α :=
  F0 k t t1 t2 t3 t4 t5 fun v v1 =>
  r0 v v1
theorem h21_g {α : Type} (F0 : T30 α) (n : Nat) : GenF (α := α) Try.prog Try.f21 S42 (h21_x F0 n) n (h21_b F0) := by intro _ _ _ _ _ _ _; kernel_rfl
theorem h21_good {α : Type} : ∀ n, GoodFn (α := α) Try.prog 21 (byShape S42.sh (callS S42 impl_BoundaryOf n)) := good_of Try.func21 (by kernel_rfl) (by kernel_rfl) (by kernel_rfl) eqs_ok (fun n => h21_g impl_ofTriangle_1F_impl_Triangle_boundary n) (by delta h21_b impl_BoundaryOf; rfl) (allC h45a_good allN) allN

end Go.Proofs.Ytjjmfadknpdnjaa
