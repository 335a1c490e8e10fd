/- The program's functions hold to their readings without memory: printed by a program of ours. -/
import Derived.Test.YtkfcnpnedibdlaaSeLTriangles
namespace Go.Proofs.Ytkfcnpnedibdlaa
open Go Go.Ev Go.Sh Go.Proofs

/-! loop.example/g01297/laws.big -/
abbrev h4_x {α : Type}  : Nat → Ctx α := ctxS M eqs jt0 [] []
def h4_b {α : Type}  (_ : Nat) (code : List Int) (r0 : Bool → Option α) : Option α :=
  r0 (decide (4096 < (((List.length code) : Nat) : Int)))
theorem h4_g {α : Type}  (n : Nat) : GenF (α := α) Try.prog Try.f4 S0 (h4_x n) n (h4_b) := by intro _ _; kernel_rfl
theorem h4_good {α : Type} : ∀ n, GoodFn (α := α) Try.prog 4 (byShape S0.sh (callS S0 laws_big n)) := good_of Try.func4 (by kernel_rfl) (by kernel_rfl) (by kernel_rfl) eqs_ok (fun n => h4_g n) (by delta h4_b laws_big; rfl) allN allN

/-! loop.example/g01297/spec.l01From -/
def h31_t3 : Tpl := ⟨(.sl 0 :: (.any :: (.any :: (.ptr 704 0 0 :: (.int .i64 :: (anyN 33 [])))))), [(0, .rows 0 5 (.int .u8)), (704, .mix 2 70 [.sl 0, .int .i64, .int .u64])], [], false⟩
def h31_p3 : PcS := loopS [.int, .rows (.int .u8), .int, .int] [0]
abbrev h31_x {α : Type} (G3 : T0 α) : Nat → Ctx α := ctxS M eqs jt0 [] [lpT 3 h31_t3 h31_p3 R1 G3]
def h31_b3 {α : Type} (G3 : T0 α) (k : Nat) (i : Int) (code1 : List Int) (s : Int) (s1 : Int) (b0 : Int → List Int → Int → Int → Option α) (r0 : Int → Int → Option α) : Option α :=
  bif decide (i < (((List.length code1) : Nat) : Int)) then
    bif decide (i < 4096) then
      bif (decide (0 ≤ i) && decide (i < (((List.length code1) : Nat) : Int))) then
        (code1[i.toNat]?).bind fun e_ =>
        G3 k (w64 (i + 1)) code1 s (IntKind.wrap .u64 ((IntKind.wrap .u64 ((IntKind.wrap .u64 (s1 * 1099511628211)) + (IntKind.wrap .u64 e_))) + 107)) b0 r0
      else
        none
    else
      b0 i code1 s s1
  else
    b0 i code1 s s1
theorem h31_g3 {α : Type} (G3 : T0 α) (n : Nat) : GenL (α := α) Try.prog Try.f31 S1 (h31_x G3 n) 3 h31_t3 h31_p3 n G3 (h31_b3 G3) := by intro _ _ _ _ _ _; kernel_rfl
def h31_b {α : Type} (G3 : T0 α) (k : Nat) (code : List Int) (r0 : Int → Int → Option α) : Option α :=
  G3 k 0 code 0 (IntKind.wrap .u64 (12971 + (IntKind.wrap .u64 (((List.length code) : Nat) : Int))))
    (fun _ _ s2 s3 =>
      r0 s2 s3)
    r0
theorem h31_g {α : Type} (G3 : T0 α) (n : Nat) : GenF (α := α) Try.prog Try.f31 S1 (h31_x G3 n) n (h31_b G3) := by intro _ _; kernel_rfl
theorem h31_good {α : Type} : ∀ n, GoodFn (α := α) Try.prog 31 (byShape S1.sh (callS S1 spec_l01From n)) := good_of Try.func31 (by kernel_rfl) (by kernel_rfl) (by kernel_rfl) eqs_ok (fun n => h31_g spec_l01From_l3 n) (by delta h31_b spec_l01From; rfl) allN (allC (loop_fine (by kernel_rfl) (fun n => by delta h31_b3; funext _ _ _ _ _ _; exact (spec_l01From_l3.eq_2 ..).symm) (fun n => h31_g3 spec_l01From_l3 n)) allN)

/-! loop.example/g01297/spec.l01Next -/
abbrev h49_x {α : Type}  : Nat → Ctx α := ctxS M eqs jt0 [] []
def h49_b {α : Type}  (_ : Nat) (s : List Int) (s1 : Int) (s2 : Int) (n_ : Int) (r0 : Int → Int → Int → Option α) : Option α :=
  bif decide (n_ < 1) then
    r0 0 s1 s2
  else
  bif decide (s1 < (((List.length s) : Nat) : Int)) then
    bif (decide (0 ≤ s1) && decide (s1 < (((List.length s) : Nat) : Int))) then
      (s[s1.toNat]?).bind fun e_ =>
      bif decide (n_ = 0) then
        none
      else
        r0 (Int.tmod (w64 ((w64 (IntKind.wrap .u64 ((BitVec.ofInt 64 (Int.fdiv (IntKind.wrap .u64 ((IntKind.wrap .u64 (s2 * 6364136223846793005)) + 1442695040888963407)) (2 ^ 31)) &&& BitVec.ofInt 64 1073741823).toNat))) + (w64 e_))) n_) (w64 (s1 + 1)) (IntKind.wrap .u64 ((IntKind.wrap .u64 (s2 * 6364136223846793005)) + 1442695040888963407))
    else
      none
  else
  bif decide (n_ = 0) then
    none
  else
    r0 (Int.tmod (w64 (IntKind.wrap .u64 ((BitVec.ofInt 64 (Int.fdiv (IntKind.wrap .u64 ((IntKind.wrap .u64 (s2 * 6364136223846793005)) + 1442695040888963407)) (2 ^ 31)) &&& BitVec.ofInt 64 1073741823).toNat))) n_) s1 (IntKind.wrap .u64 ((IntKind.wrap .u64 (s2 * 6364136223846793005)) + 1442695040888963407))
theorem h49_g {α : Type}  (n : Nat) : GenF (α := α) Try.prog Try.f49 S2 (h49_x n) n (h49_b) := by intro _ _ _ _ _; kernel_rfl
theorem h49_good {α : Type} : ∀ n, GoodFn (α := α) Try.prog 49 (byShape S2.sh (callS S2 spec_l01Next n)) := good_of Try.func49 (by kernel_rfl) (by kernel_rfl) (by kernel_rfl) eqs_ok (fun n => h49_g n) (by delta h49_b spec_l01Next; rfl) allN allN

/-! loop.example/g01297/spec.l01DrawPoint -/
abbrev h56_x {α : Type} (F0 : T1 α) : Nat → Ctx α := ctxS M eqs jt0 [⟨49, S2, F0⟩] []
def h56_b {α : Type} (F0 : T1 α) (k : Nat) (s : List Int) (s1 : Int) (s2 : Int) (most : Int) (r0 : Int → Int → Int → Int → Option α) : Option α :=
  F0 k s s1 s2 (w64 ((w64 (2 * most)) + 1)) fun v v1 v2 =>
  F0 k s v1 v2 (w64 ((w64 (2 * most)) + 1)) fun v3 v4 v5 =>
  r0 (w64 (v - most)) (w64 (v3 - most)) v4 v5
theorem h56_g {α : Type} (F0 : T1 α) (n : Nat) : GenF (α := α) Try.prog Try.f56 S3 (h56_x F0 n) n (h56_b F0) := by intro _ _ _ _ _; kernel_rfl
theorem h56_good {α : Type} : ∀ n, GoodFn (α := α) Try.prog 56 (byShape S3.sh (callS S3 spec_l01DrawPoint n)) := good_of Try.func56 (by kernel_rfl) (by kernel_rfl) (by kernel_rfl) eqs_ok (fun n => h56_g spec_l01Next n) (by delta h56_b spec_l01DrawPoint; rfl) (allC h49_good allN) allN

/-! loop.example/g01297/spec.l01Plus -/
abbrev h55_x {α : Type}  : Nat → Ctx α := ctxS M eqs jt0 [] []
def h55_b {α : Type}  (_ : Nat) (a : Int) (a1 : Int) (b_ : Int) (b_1 : Int) (k_ : Int) (r0 : Int → Int → Option α) : Option α :=
  r0 (w64 (a + (w64 (k_ * b_)))) (w64 (a1 + (w64 (k_ * b_1))))
theorem h55_g {α : Type}  (n : Nat) : GenF (α := α) Try.prog Try.f55 S4 (h55_x n) n (h55_b) := by intro _ _ _ _ _ _; kernel_rfl
theorem h55_good {α : Type} : ∀ n, GoodFn (α := α) Try.prog 55 (byShape S4.sh (callS S4 spec_l01Plus n)) := good_of Try.func55 (by kernel_rfl) (by kernel_rfl) (by kernel_rfl) eqs_ok (fun n => h55_g n) (by delta h55_b spec_l01Plus; rfl) allN allN

/-! loop.example/g01297/spec.l01Det -/
abbrev h62_x {α : Type}  : Nat → Ctx α := ctxS M eqs jt0 [] []
def h62_b {α : Type}  (_ : Nat) (a : Int) (a1 : Int) (b_ : Int) (b_1 : Int) (r0 : Int → Option α) : Option α :=
  r0 (w64 ((w64 (a * b_1)) - (w64 (a1 * b_))))
theorem h62_g {α : Type}  (n : Nat) : GenF (α := α) Try.prog Try.f62 S5 (h62_x n) n (h62_b) := by intro _ _ _ _ _; kernel_rfl
theorem h62_good {α : Type} : ∀ n, GoodFn (α := α) Try.prog 62 (byShape S5.sh (callS S5 spec_l01Det n)) := good_of Try.func62 (by kernel_rfl) (by kernel_rfl) (by kernel_rfl) eqs_ok (fun n => h62_g n) (by delta h62_b spec_l01Det; rfl) allN allN

/-! loop.example/g01297/spec.l01Area -/
abbrev h57_x {α : Type} (F0 : T2 α) (F1 : T3 α) : Nat → Ctx α := ctxS M eqs jt0 [⟨55, S4, F0⟩, ⟨62, S5, F1⟩] []
def h57_b {α : Type} (F0 : T2 α) (F1 : T3 α) (k : Nat) (a : Int) (a1 : Int) (b_ : Int) (b_1 : Int) (c : Int) (c1 : Int) (r0 : Int → Option α) : Option α :=
  F0 k b_ b_1 a a1 (-1) fun v v1 =>
  F0 k c c1 a a1 (-1) fun v2 v3 =>
  F1 k v v1 v2 v3 fun v4 =>
  r0 (max v4 (w64 (0 - v4)))
theorem h57_g {α : Type} (F0 : T2 α) (F1 : T3 α) (n : Nat) : GenF (α := α) Try.prog Try.f57 S6 (h57_x F0 F1 n) n (h57_b F0 F1) := by intro _ _ _ _ _ _ _; kernel_rfl
theorem h57_good {α : Type} : ∀ n, GoodFn (α := α) Try.prog 57 (byShape S6.sh (callS S6 spec_l01Area n)) := good_of Try.func57 (by kernel_rfl) (by kernel_rfl) (by kernel_rfl) eqs_ok (fun n => h57_g spec_l01Plus spec_l01Det n) (by delta h57_b spec_l01Area; rfl) (allC h55_good (allC h62_good allN)) allN

/-! loop.example/g01297/spec.l01Pick -/
abbrev h52_x {α : Type} (F0 : T1 α) : Nat → Ctx α := ctxS M eqs jt0 [⟨49, S2, F0⟩] []
def h52_b {α : Type} (F0 : T1 α) (k : Nat) (s : List Int) (s1 : Int) (s2 : Int) (list : List Int) (r0 : Int → Int → Int → Option α) : Option α :=
  F0 k s s1 s2 (((List.length list) : Nat) : Int) fun v v1 v2 =>
  bif (decide (0 ≤ v) && decide (v < (((List.length list) : Nat) : Int))) then
    (list[v.toNat]?).bind fun e_ =>
    r0 e_ v1 v2
  else
    none
theorem h52_g {α : Type} (F0 : T1 α) (n : Nat) : GenF (α := α) Try.prog Try.f52 S7 (h52_x F0 n) n (h52_b F0) := by intro _ _ _ _ _; kernel_rfl
theorem h52_good {α : Type} : ∀ n, GoodFn (α := α) Try.prog 52 (byShape S7.sh (callS S7 spec_l01Pick n)) := good_of Try.func52 (by kernel_rfl) (by kernel_rfl) (by kernel_rfl) eqs_ok (fun n => h52_g spec_l01Next n) (by delta h52_b spec_l01Pick; rfl) (allC h49_good allN) allN

/-! loop.example/g01297/spec.l04Draw -/
abbrev h64_x {α : Type} (F0 : T4 α) (F1 : T5 α) (F2 : T6 α) (F3 : T2 α) : Nat → Ctx α := ctxS M eqs jt0 [⟨52, S7, F0⟩, ⟨56, S3, F1⟩, ⟨57, S6, F2⟩, ⟨55, S4, F3⟩] []
def h64_b {α : Type} (F0 : T4 α) (F1 : T5 α) (F2 : T6 α) (F3 : T2 α) (k : Nat) (s : List Int) (s1 : Int) (s2 : Int) (r0 : Int → Int → Int → Int → Int → Int → Int → Int → Option α) : Option α :=
  F0 k s s1 s2 [2, 4, 4, 8, 20, 1000] fun v v1 v2 =>
  F1 k s v1 v2 v fun v3 v4 v5 v6 =>
  F1 k s v5 v6 v fun v7 v8 v9 v10 =>
  F1 k s v9 v10 v fun v11 v12 v13 v14 =>
  F2 k v3 v4 v7 v8 v11 v12 fun v15 =>
  bif decide (v15 = 0) then
    F0 k s v13 v14 [1, (-1)] fun v16 v17 v18 =>
    F3 k v3 v4 1 0 v16 fun v19 v20 =>
    F0 k s v17 v18 [1, (-1), 2] fun v21 v22 v23 =>
    F3 k v3 v4 0 1 v21 fun v24 v25 =>
    r0 v3 v4 v19 v20 v24 v25 v22 v23
  else
    r0 v3 v4 v7 v8 v11 v12 v13 v14
theorem h64_g {α : Type} (F0 : T4 α) (F1 : T5 α) (F2 : T6 α) (F3 : T2 α) (n : Nat) : GenF (α := α) Try.prog Try.f64 S8 (h64_x F0 F1 F2 F3 n) n (h64_b F0 F1 F2 F3) := by intro _ _ _ _; kernel_rfl
theorem h64_good {α : Type} : ∀ n, GoodFn (α := α) Try.prog 64 (byShape S8.sh (callS S8 spec_l04Draw n)) := good_of Try.func64 (by kernel_rfl) (by kernel_rfl) (by kernel_rfl) eqs_ok (fun n => h64_g spec_l01Pick spec_l01DrawPoint spec_l01Area spec_l01Plus n) (by delta h64_b spec_l04Draw; rfl) (allC h52_good (allC h56_good (allC h57_good (allC h55_good allN)))) allN

/-! loop.example/g01297/spec.l04Spoil -/
abbrev h39_x {α : Type} (F0 : T7 α) (F1 : T1 α) (F2 : T4 α) : Nat → Ctx α := ctxS M eqs jt0 [⟨64, S8, F0⟩, ⟨49, S2, F1⟩, ⟨52, S7, F2⟩] []
def h39_b {α : Type} (F0 : T7 α) (F1 : T1 α) (F2 : T4 α) (k : Nat) (s : List Int) (s1 : Int) (s2 : Int) (r0 : Int → Int → Int → Int → Int → Int → Int → Int → Option α) : Option α :=
  F0 k s s1 s2 fun v v1 v2 v3 v4 v5 v6 v7 =>
  F1 k s v6 v7 40 fun v8 v9 v10 =>
  bif decide (v8 = 0) then
    F1 k s v9 v10 2 fun v11 v12 v13 =>
    bif (decide (0 ≤ v11) && decide (v11 < 3)) then
      ([v, v1, v2, v3, v4, v5][(v11.toNat * 2)]?).bind fun e_ =>
      ([v, v1, v2, v3, v4, v5][((v11.toNat * 2) + 1)]?).bind fun e_1 =>
      r0 v v1 v2 v3 e_ e_1 v12 v13
    else
      none
  else
  bif decide (v8 = 1) then
    F1 k s v9 v10 3 fun v14 v15 v16 =>
    bif (decide (0 ≤ v14) && decide (v14 < 3)) then
      F1 k s v15 v16 2 fun v17 v18 v19 =>
      F2 k s v18 v19 [1001, (-1001), 1000] fun v20 v21 v22 =>
      bif (decide (0 ≤ v17) && decide (v17 < 2)) then
        ([v, v1, v2, v3, v4, v5][(moved (v14.toNat * 2) v17.toNat 1)]?).bind fun _ =>
        ((List.set [v, v1, v2, v3, v4, v5] (moved (v14.toNat * 2) v17.toNat 1) v20)[0]?).bind fun e_2 =>
        ((List.set [v, v1, v2, v3, v4, v5] (moved (v14.toNat * 2) v17.toNat 1) v20)[1]?).bind fun e_3 =>
        ((List.set [v, v1, v2, v3, v4, v5] (moved (v14.toNat * 2) v17.toNat 1) v20)[2]?).bind fun e_4 =>
        ((List.set [v, v1, v2, v3, v4, v5] (moved (v14.toNat * 2) v17.toNat 1) v20)[3]?).bind fun e_5 =>
        ((List.set [v, v1, v2, v3, v4, v5] (moved (v14.toNat * 2) v17.toNat 1) v20)[4]?).bind fun e_6 =>
        ((List.set [v, v1, v2, v3, v4, v5] (moved (v14.toNat * 2) v17.toNat 1) v20)[5]?).bind fun e_7 =>
        r0 e_2 e_3 e_4 e_5 e_6 e_7 v21 v22
      else
        none
    else
      none
  else
    r0 v v1 v2 v3 v4 v5 v9 v10
theorem h39_g {α : Type} (F0 : T7 α) (F1 : T1 α) (F2 : T4 α) (n : Nat) : GenF (α := α) Try.prog Try.f39 S8 (h39_x F0 F1 F2 n) n (h39_b F0 F1 F2) := by intro _ _ _ _; kernel_rfl
theorem h39_good {α : Type} : ∀ n, GoodFn (α := α) Try.prog 39 (byShape S8.sh (callS S8 spec_l04Spoil n)) := good_of Try.func39 (by kernel_rfl) (by kernel_rfl) (by kernel_rfl) eqs_ok (fun n => h39_g spec_l04Draw spec_l01Next spec_l01Pick n) (by delta h39_b spec_l04Spoil; rfl) (allC h64_good (allC h49_good (allC h52_good allN))) allN

/-! loop.example/g01297/spec.l04Small -/
abbrev h30_x {α : Type} (F0 : T5 α) (F1 : T6 α) (F2 : T7 α) (F3 : T1 α) : Nat → Ctx α := ctxS M eqs jt0 [⟨56, S3, F0⟩, ⟨57, S6, F1⟩, ⟨39, S8, F2⟩, ⟨49, S2, F3⟩] []
def h30_b {α : Type} (F0 : T5 α) (F1 : T6 α) (F2 : T7 α) (F3 : T1 α) (k : Nat) (s : List Int) (s1 : Int) (s2 : Int) (r0 : Int → Int → Int → Int → Int → Int → Int → Int → Option α) : Option α :=
  F0 k s s1 s2 12 fun v v1 v2 v3 =>
  F0 k s v2 v3 12 fun v4 v5 v6 v7 =>
  F0 k s v6 v7 12 fun v8 v9 v10 v11 =>
  F1 k v v1 v4 v5 v8 v9 fun v12 =>
  bif decide (v12 = 0) then
    F2 k s v10 v11 fun v13 v14 v15 v16 v17 v18 v19 v20 =>
    r0 v13 v14 v15 v16 v17 v18 v19 v20
  else
    F3 k s v10 v11 12 fun v21 v22 v23 =>
    bif decide (v21 = 0) then
      F2 k s v22 v23 fun v24 v25 v26 v27 v28 v29 v30 v31 =>
      r0 v24 v25 v26 v27 v28 v29 v30 v31
    else
      r0 v v1 v4 v5 v8 v9 v22 v23
theorem h30_g {α : Type} (F0 : T5 α) (F1 : T6 α) (F2 : T7 α) (F3 : T1 α) (n : Nat) : GenF (α := α) Try.prog Try.f30 S8 (h30_x F0 F1 F2 F3 n) n (h30_b F0 F1 F2 F3) := by intro _ _ _ _; kernel_rfl
theorem h30_good {α : Type} : ∀ n, GoodFn (α := α) Try.prog 30 (byShape S8.sh (callS S8 spec_l04Small n)) := good_of Try.func30 (by kernel_rfl) (by kernel_rfl) (by kernel_rfl) eqs_ok (fun n => h30_g spec_l01DrawPoint spec_l01Area spec_l04Spoil spec_l01Next n) (by delta h30_b spec_l04Small; rfl) (allC h56_good (allC h57_good (allC h39_good (allC h49_good allN)))) allN

/-! loop.example/g01297/spec.DrawInnerPoints -/
abbrev h5_x {α : Type} (F0 : T8 α) (F1 : T7 α) : Nat → Ctx α := ctxS M eqs jt0 [⟨31, S1, F0⟩, ⟨30, S8, F1⟩] []
def h5_b {α : Type} (F0 : T8 α) (F1 : T7 α) (k : Nat) (code : List Int) (r0 : Int → Int → Int → Int → Int → Int → Option α) : Option α :=
  F0 k code fun v v1 =>
  F1 k code v v1 fun v2 v3 v4 v5 v6 v7 _ _ =>
  r0 v2 v3 v4 v5 v6 v7
theorem h5_g {α : Type} (F0 : T8 α) (F1 : T7 α) (n : Nat) : GenF (α := α) Try.prog Try.f5 S9 (h5_x F0 F1 n) n (h5_b F0 F1) := by intro _ _; kernel_rfl
theorem h5_good {α : Type} : ∀ n, GoodFn (α := α) Try.prog 5 (byShape S9.sh (callS S9 spec_DrawInnerPoints n)) := good_of Try.func5 (by kernel_rfl) (by kernel_rfl) (by kernel_rfl) eqs_ok (fun n => h5_g spec_l01From spec_l04Small n) (by delta h5_b spec_DrawInnerPoints; rfl) (allC h31_good (allC h30_good allN)) allN

/-! loop.example/g01297/impl.in -/
abbrev h50_x {α : Type}  : Nat → Ctx α := ctxS M eqs jt0 [] []
def h50_b {α : Type}  (_ : Nat) (n_ : Int) (low : Int) (high : Int) (r0 : Bool → Option α) : Option α :=
  bif decide (low ≤ n_) then
    r0 (decide (n_ ≤ high))
  else
    r0 false
theorem h50_g {α : Type}  (n : Nat) : GenF (α := α) Try.prog Try.f50 S10 (h50_x n) n (h50_b) := by intro _ _ _ _; kernel_rfl
theorem h50_good {α : Type} : ∀ n, GoodFn (α := α) Try.prog 50 (byShape S10.sh (callS S10 impl_in n)) := good_of Try.func50 (by kernel_rfl) (by kernel_rfl) (by kernel_rfl) eqs_ok (fun n => h50_g n) (by delta h50_b impl_in; rfl) allN allN

/-! loop.example/g01297/impl.small -/
abbrev h37_x {α : Type} (F0 : T9 α) : Nat → Ctx α := ctxS M eqs jt0 [⟨50, S10, F0⟩] []
def h37_b {α : Type} (F0 : T9 α) (k : Nat) (a : Int) (a1 : Int) (r0 : Bool → Option α) : Option α :=
  F0 k a (-1000) 1000 fun v =>
  bif v then
    F0 k a1 (-1000) 1000 fun v1 =>
    r0 v1
  else
    r0 false
theorem h37_g {α : Type} (F0 : T9 α) (n : Nat) : GenF (α := α) Try.prog Try.f37 S11 (h37_x F0 n) n (h37_b F0) := by intro _ _ _; kernel_rfl
theorem h37_good {α : Type} : ∀ n, GoodFn (α := α) Try.prog 37 (byShape S11.sh (callS S11 impl_small n)) := good_of Try.func37 (by kernel_rfl) (by kernel_rfl) (by kernel_rfl) eqs_ok (fun n => h37_g impl_in n) (by delta h37_b impl_small; rfl) (allC h50_good allN) allN

/-! (loop.example/g01297/impl.Point).plus -/
abbrev h54_x {α : Type}  : Nat → Ctx α := ctxS M eqs jt0 [] []
def h54_b {α : Type}  (_ : Nat) (a : Int) (a1 : Int) (b_ : Int) (b_1 : Int) (k_ : Int) (r0 : Int → Int → Option α) : Option α :=
  r0 (w64 (a + (w64 (k_ * b_)))) (w64 (a1 + (w64 (k_ * b_1))))
theorem h54_g {α : Type}  (n : Nat) : GenF (α := α) Try.prog Try.f54 S4 (h54_x n) n (h54_b) := by intro _ _ _ _ _ _; kernel_rfl
theorem h54_good {α : Type} : ∀ n, GoodFn (α := α) Try.prog 54 (byShape S4.sh (callS S4 impl_Point_plus n)) := good_of Try.func54 (by kernel_rfl) (by kernel_rfl) (by kernel_rfl) eqs_ok (fun n => h54_g n) (by delta h54_b impl_Point_plus; rfl) allN allN

/-! (loop.example/g01297/impl.Point).less -/
abbrev h61_x {α : Type} (F0 : T2 α) : Nat → Ctx α := ctxS M eqs jt0 [⟨54, S4, F0⟩] []
def h61_b {α : Type} (F0 : T2 α) (k : Nat) (a : Int) (a1 : Int) (b_ : Int) (b_1 : Int) (r0 : Int → Int → Option α) : Option α :=
  F0 k a a1 b_ b_1 (-1) fun v v1 =>
  r0 v v1
theorem h61_g {α : Type} (F0 : T2 α) (n : Nat) : GenF (α := α) Try.prog Try.f61 S12 (h61_x F0 n) n (h61_b F0) := by intro _ _ _ _ _; kernel_rfl
theorem h61_good {α : Type} : ∀ n, GoodFn (α := α) Try.prog 61 (byShape S12.sh (callS S12 impl_Point_less n)) := good_of Try.func61 (by kernel_rfl) (by kernel_rfl) (by kernel_rfl) eqs_ok (fun n => h61_g impl_Point_plus n) (by delta h61_b impl_Point_less; rfl) (allC h54_good allN) allN

/-! loop.example/g01297/impl.det -/
abbrev h59_x {α : Type}  : Nat → Ctx α := ctxS M eqs jt0 [] []
def h59_b {α : Type}  (_ : Nat) (a : Int) (a1 : Int) (b_ : Int) (b_1 : Int) (r0 : Int → Option α) : Option α :=
  r0 (w64 ((w64 (a * b_1)) - (w64 (a1 * b_))))
theorem h59_g {α : Type}  (n : Nat) : GenF (α := α) Try.prog Try.f59 S5 (h59_x n) n (h59_b) := by intro _ _ _ _ _; kernel_rfl
theorem h59_good {α : Type} : ∀ n, GoodFn (α := α) Try.prog 59 (byShape S5.sh (callS S5 impl_det n)) := good_of Try.func59 (by kernel_rfl) (by kernel_rfl) (by kernel_rfl) eqs_ok (fun n => h59_g n) (by delta h59_b impl_det; rfl) allN allN

/-! loop.example/g01297/impl.size -/
abbrev h63_x {α : Type}  : Nat → Ctx α := ctxS M eqs jt0 [] []
def h63_b {α : Type}  (_ : Nat) (n_ : Int) (r0 : Int → Option α) : Option α :=
  r0 (max n_ (w64 (0 - n_)))
theorem h63_g {α : Type}  (n : Nat) : GenF (α := α) Try.prog Try.f63 S13 (h63_x n) n (h63_b) := by intro _ _; kernel_rfl
theorem h63_good {α : Type} : ∀ n, GoodFn (α := α) Try.prog 63 (byShape S13.sh (callS S13 impl_size n)) := good_of Try.func63 (by kernel_rfl) (by kernel_rfl) (by kernel_rfl) eqs_ok (fun n => h63_g n) (by delta h63_b impl_size; rfl) allN allN

/-! loop.example/g01297/impl.area -/
abbrev h38_x {α : Type} (F0 : T10 α) (F1 : T3 α) (F2 : T11 α) : Nat → Ctx α := ctxS M eqs jt0 [⟨61, S12, F0⟩, ⟨59, S5, F1⟩, ⟨63, S13, F2⟩] []
def h38_b {α : Type} (F0 : T10 α) (F1 : T3 α) (F2 : T11 α) (k : Nat) (a : Int) (a1 : Int) (b_ : Int) (b_1 : Int) (c : Int) (c1 : Int) (r0 : Int → Option α) : Option α :=
  F0 k b_ b_1 a a1 fun v v1 =>
  F0 k c c1 a a1 fun v2 v3 =>
  F1 k v v1 v2 v3 fun v4 =>
  F2 k v4 fun v5 =>
  r0 v5
theorem h38_g {α : Type} (F0 : T10 α) (F1 : T3 α) (F2 : T11 α) (n : Nat) : GenF (α := α) Try.prog Try.f38 S6 (h38_x F0 F1 F2 n) n (h38_b F0 F1 F2) := by intro _ _ _ _ _ _ _; kernel_rfl
theorem h38_good {α : Type} : ∀ n, GoodFn (α := α) Try.prog 38 (byShape S6.sh (callS S6 impl_area n)) := good_of Try.func38 (by kernel_rfl) (by kernel_rfl) (by kernel_rfl) eqs_ok (fun n => h38_g impl_Point_less impl_det impl_size n) (by delta h38_b impl_area; rfl) (allC h61_good (allC h59_good (allC h63_good allN))) allN

/-! loop.example/g01297/impl.IsTriangle -/
abbrev h9_x {α : Type} (F0 : T12 α) (F1 : T6 α) : Nat → Ctx α := ctxS M eqs jt0 [⟨37, S11, F0⟩, ⟨38, S6, F1⟩] []
def h9_b {α : Type} (F0 : T12 α) (F1 : T6 α) (k : Nat) (t : Int) (t1 : Int) (t2 : Int) (t3 : Int) (t4 : Int) (t5 : Int) (r0 : Bool → Option α) : Option α :=
  F0 k t t1 fun v =>
  bif v then
    F0 k t2 t3 fun v1 =>
    bif v1 then
      F0 k t4 t5 fun v2 =>
      bif v2 then
        F1 k t t1 t2 t3 t4 t5 fun v3 =>
        r0 (!decide (v3 = 0))
      else
        r0 false
    else
      r0 false
  else
    r0 false
theorem h9_g {α : Type} (F0 : T12 α) (F1 : T6 α) (n : Nat) : GenF (α := α) Try.prog Try.f9 S14 (h9_x F0 F1 n) n (h9_b F0 F1) := by intro _ _ _ _ _ _ _; kernel_rfl
theorem h9_good {α : Type} : ∀ n, GoodFn (α := α) Try.prog 9 (byShape S14.sh (callS S14 impl_IsTriangle n)) := good_of Try.func9 (by kernel_rfl) (by kernel_rfl) (by kernel_rfl) eqs_ok (fun n => h9_g impl_small impl_area n) (by delta h9_b impl_IsTriangle; rfl) (allC h37_good (allC h38_good allN)) allN

/-! (loop.example/g01297/impl.Triangle).area -/
abbrev h41_x {α : Type} (F0 : T6 α) : Nat → Ctx α := ctxS M eqs jt0 [⟨38, S6, F0⟩] []
def h41_b {α : Type} (F0 : T6 α) (k : Nat) (t : Int) (t1 : Int) (t2 : Int) (t3 : Int) (t4 : Int) (t5 : Int) (r0 : Int → Option α) : Option α :=
  F0 k t t1 t2 t3 t4 t5 fun v =>
  r0 v
theorem h41_g {α : Type} (F0 : T6 α) (n : Nat) : GenF (α := α) Try.prog Try.f41 S15 (h41_x F0 n) n (h41_b F0) := by intro _ _ _ _ _ _ _; kernel_rfl
theorem h41_good {α : Type} : ∀ n, GoodFn (α := α) Try.prog 41 (byShape S15.sh (callS S15 impl_Triangle_area n)) := good_of Try.func41 (by kernel_rfl) (by kernel_rfl) (by kernel_rfl) eqs_ok (fun n => h41_g impl_area n) (by delta h41_b impl_Triangle_area; rfl) (allC h38_good allN) allN

/-! (loop.example/g01297/impl.Triangle).side -/
abbrev h60_x {α : Type} (F0 : T10 α) : Nat → Ctx α := ctxS M eqs jt0 [⟨61, S12, F0⟩] []
def h60_b {α : Type} (F0 : T10 α) (k : Nat) (t : Int) (t1 : Int) (t2 : Int) (t3 : Int) (t4 : Int) (t5 : Int) (i : Int) (k_ : Int) (r0 : Int → Int → Option α) : Option α :=
  bif (decide (0 ≤ k_) && decide (k_ < 3)) then
    ([t, t1, t2, t3, t4, t5][(k_.toNat * 2)]?).bind fun e_ =>
    ([t, t1, t2, t3, t4, t5][((k_.toNat * 2) + 1)]?).bind fun e_1 =>
    bif (decide (0 ≤ i) && decide (i < 3)) then
      ([t, t1, t2, t3, t4, t5][(i.toNat * 2)]?).bind fun e_2 =>
      ([t, t1, t2, t3, t4, t5][((i.toNat * 2) + 1)]?).bind fun e_3 =>
      F0 k e_ e_1 e_2 e_3 fun v v1 =>
      r0 v v1
    else
      none
  else
    none
theorem h60_g {α : Type} (F0 : T10 α) (n : Nat) : GenF (α := α) Try.prog Try.f60 S16 (h60_x F0 n) n (h60_b F0) := by intro _ _ _ _ _ _ _ _ _; kernel_rfl
theorem h60_good {α : Type} : ∀ n, GoodFn (α := α) Try.prog 60 (byShape S16.sh (callS S16 impl_Triangle_side n)) := good_of Try.func60 (by kernel_rfl) (by kernel_rfl) (by kernel_rfl) eqs_ok (fun n => h60_g impl_Point_less n) (by delta h60_b impl_Triangle_side; rfl) (allC h61_good allN) allN

/-! loop.example/g01297/impl.gcd -/
def h69_t1 : Tpl := ⟨(.int .i64 :: (.int .i64 :: (anyN 11 []))), [], [], false⟩
def h69_p1 : PcS := loopS [.int, .int] [0]
abbrev h69_x {α : Type} (F0 : T11 α) (G1 : T13 α) : Nat → Ctx α := ctxS M eqs jt0 [⟨63, S13, F0⟩] [lpT 1 h69_t1 h69_p1 R5 G1]
def h69_b1 {α : Type} (G1 : T13 α) (k : Nat) (a1 : Int) (b_1 : Int) (b0 : Int → Int → Option α) (r0 : Int → Option α) : Option α :=
  bif (!decide (b_1 = 0)) then
    bif decide (b_1 = 0) then
      none
    else
      G1 k b_1 (Int.tmod a1 b_1) b0 r0
  else
    b0 a1 b_1
theorem h69_g1 {α : Type} (F0 : T11 α) (G1 : T13 α) (n : Nat) : GenL (α := α) Try.prog Try.f69 S17 (h69_x F0 G1 n) 1 h69_t1 h69_p1 n G1 (h69_b1 G1) := by intro _ _ _ _; kernel_rfl
def h69_b {α : Type} (F0 : T11 α) (G1 : T13 α) (k : Nat) (a : Int) (b_ : Int) (r0 : Int → Option α) : Option α :=
  G1 k a b_
    (fun a2 _ =>
      F0 k a2 fun v =>
      r0 v)
    r0
theorem h69_g {α : Type} (F0 : T11 α) (G1 : T13 α) (n : Nat) : GenF (α := α) Try.prog Try.f69 S17 (h69_x F0 G1 n) n (h69_b F0 G1) := by intro _ _ _; kernel_rfl
theorem h69_good {α : Type} : ∀ n, GoodFn (α := α) Try.prog 69 (byShape S17.sh (callS S17 impl_gcd n)) := good_of Try.func69 (by kernel_rfl) (by kernel_rfl) (by kernel_rfl) eqs_ok (fun n => h69_g impl_size impl_gcd_l1 n) (by delta h69_b impl_gcd; rfl) (allC h63_good allN) (allC (loop_fine (by kernel_rfl) (fun n => by delta h69_b1; funext _ _ _ _; exact (impl_gcd_l1.eq_2 ..).symm) (fun n => h69_g1 impl_size impl_gcd_l1 n)) allN)

/-! (loop.example/g01297/impl.Point).length -/
abbrev h65_x {α : Type} (F0 : T14 α) : Nat → Ctx α := ctxS M eqs jt0 [⟨69, S17, F0⟩] []
def h65_b {α : Type} (F0 : T14 α) (k : Nat) (a : Int) (a1 : Int) (r0 : Int → Option α) : Option α :=
  F0 k a a1 fun v =>
  r0 v
theorem h65_g {α : Type} (F0 : T14 α) (n : Nat) : GenF (α := α) Try.prog Try.f65 S18 (h65_x F0 n) n (h65_b F0) := by intro _ _ _; kernel_rfl
theorem h65_good {α : Type} : ∀ n, GoodFn (α := α) Try.prog 65 (byShape S18.sh (callS S18 impl_Point_length n)) := good_of Try.func65 (by kernel_rfl) (by kernel_rfl) (by kernel_rfl) eqs_ok (fun n => h65_g impl_gcd n) (by delta h65_b impl_Point_length; rfl) (allC h69_good allN) allN

/-! (loop.example/g01297/impl.Triangle).boundary -/
abbrev h43_x {α : Type} (F0 : T15 α) (F1 : T14 α) : Nat → Ctx α := ctxS M eqs jt0 [⟨60, S16, F0⟩, ⟨65, S18, F1⟩] []
def h43_b {α : Type} (F0 : T15 α) (F1 : T14 α) (k : Nat) (t : Int) (t1 : Int) (t2 : Int) (t3 : Int) (t4 : Int) (t5 : Int) (r0 : Int → Option α) : Option α :=
  F0 k t t1 t2 t3 t4 t5 0 1 fun v v1 =>
  F1 k v v1 fun v2 =>
  F0 k t t1 t2 t3 t4 t5 1 2 fun v3 v4 =>
  F1 k v3 v4 fun v5 =>
  F0 k t t1 t2 t3 t4 t5 2 0 fun v6 v7 =>
  F1 k v6 v7 fun v8 =>
  r0 (w64 ((w64 (v2 + v5)) + v8))
theorem h43_g {α : Type} (F0 : T15 α) (F1 : T14 α) (n : Nat) : GenF (α := α) Try.prog Try.f43 S15 (h43_x F0 F1 n) n (h43_b F0 F1) := by intro _ _ _ _ _ _ _; kernel_rfl
theorem h43_good {α : Type} : ∀ n, GoodFn (α := α) Try.prog 43 (byShape S15.sh (callS S15 impl_Triangle_boundary n)) := good_of Try.func43 (by kernel_rfl) (by kernel_rfl) (by kernel_rfl) eqs_ok (fun n => h43_g impl_Triangle_side impl_Point_length n) (by delta h43_b impl_Triangle_boundary; rfl) (allC h60_good (allC h65_good allN)) allN

/-! (loop.example/g01297/impl.Triangle).inner -/
abbrev h32_x {α : Type} (F0 : T6 α) (F1 : T6 α) : Nat → Ctx α := ctxS M eqs jt0 [⟨41, S15, F0⟩, ⟨43, S15, F1⟩] []
def h32_b {α : Type} (F0 : T6 α) (F1 : T6 α) (k : Nat) (t : Int) (t1 : Int) (t2 : Int) (t3 : Int) (t4 : Int) (t5 : Int) (r0 : Int → Option α) : Option α :=
  F0 k t t1 t2 t3 t4 t5 fun v =>
  F1 k t t1 t2 t3 t4 t5 fun v1 =>
  r0 (w64 ((w64 (Int.tdiv (w64 (v - v1)) 2)) + 1))
theorem h32_g {α : Type} (F0 : T6 α) (F1 : T6 α) (n : Nat) : GenF (α := α) Try.prog Try.f32 S15 (h32_x F0 F1 n) n (h32_b F0 F1) := by intro _ _ _ _ _ _ _; kernel_rfl
theorem h32_good {α : Type} : ∀ n, GoodFn (α := α) Try.prog 32 (byShape S15.sh (callS S15 impl_Triangle_inner n)) := good_of Try.func32 (by kernel_rfl) (by kernel_rfl) (by kernel_rfl) eqs_ok (fun n => h32_g impl_Triangle_area impl_Triangle_boundary n) (by delta h32_b impl_Triangle_inner; rfl) (allC h41_good (allC h43_good allN)) allN

/-! loop.example/g01297/impl.sign -/
abbrev h58_x {α : Type}  : Nat → Ctx α := ctxS M eqs jt0 [] []
def h58_b {α : Type}  (_ : Nat) (n_ : Int) (r0 : Int → Option α) : Option α :=
  bif decide (n_ < 0) then
    r0 (-1)
  else
    r0 1
theorem h58_g {α : Type}  (n : Nat) : GenF (α := α) Try.prog Try.f58 S13 (h58_x n) n (h58_b) := by intro _ _; kernel_rfl
theorem h58_good {α : Type} : ∀ n, GoodFn (α := α) Try.prog 58 (byShape S13.sh (callS S13 impl_sign n)) := good_of Try.func58 (by kernel_rfl) (by kernel_rfl) (by kernel_rfl) eqs_ok (fun n => h58_g n) (by delta h58_b impl_sign; rfl) allN allN

/-! (loop.example/g01297/impl.Triangle).inside -/
abbrev h33_x {α : Type} (F0 : T15 α) (F1 : T3 α) (F2 : T11 α) (F3 : T10 α) : Nat → Ctx α := ctxS M eqs jt0 [⟨60, S16, F0⟩, ⟨59, S5, F1⟩, ⟨58, S13, F2⟩, ⟨61, S12, F3⟩] []
def h33_b {α : Type} (F0 : T15 α) (F1 : T3 α) (F2 : T11 α) (F3 : T10 α) (k : Nat) (t : Int) (t1 : Int) (t2 : Int) (t3 : Int) (t4 : Int) (t5 : Int) (a : Int) (a1 : Int) (r0 : Bool → Option α) : Option α :=
  F0 k t t1 t2 t3 t4 t5 0 1 fun v v1 =>
  F0 k t t1 t2 t3 t4 t5 0 2 fun v2 v3 =>
  F1 k v v1 v2 v3 fun v4 =>
  F2 k v4 fun v5 =>
  F0 k t t1 t2 t3 t4 t5 0 1 fun v6 v7 =>
  F3 k a a1 t t1 fun v8 v9 =>
  F1 k v6 v7 v8 v9 fun v10 =>
  bif decide ((w64 (v5 * v10)) ≤ 0) then
    r0 false
  else
    F0 k t t1 t2 t3 t4 t5 1 2 fun v11 v12 =>
    F3 k a a1 t2 t3 fun v13 v14 =>
    F1 k v11 v12 v13 v14 fun v15 =>
    bif decide ((w64 (v5 * v15)) ≤ 0) then
      r0 false
    else
      F0 k t t1 t2 t3 t4 t5 2 0 fun v16 v17 =>
      F3 k a a1 t4 t5 fun v18 v19 =>
      F1 k v16 v17 v18 v19 fun v20 =>
      bif decide ((w64 (v5 * v20)) ≤ 0) then
        r0 false
      else
        r0 true
theorem h33_g {α : Type} (F0 : T15 α) (F1 : T3 α) (F2 : T11 α) (F3 : T10 α) (n : Nat) : GenF (α := α) Try.prog Try.f33 S19 (h33_x F0 F1 F2 F3 n) n (h33_b F0 F1 F2 F3) := by intro _ _ _ _ _ _ _ _ _; kernel_rfl
theorem h33_good {α : Type} : ∀ n, GoodFn (α := α) Try.prog 33 (byShape S19.sh (callS S19 impl_Triangle_inside n)) := good_of Try.func33 (by kernel_rfl) (by kernel_rfl) (by kernel_rfl) eqs_ok (fun n => h33_g impl_Triangle_side impl_det impl_sign impl_Point_less n) (by delta h33_b impl_Triangle_inside; rfl) (allC h60_good (allC h59_good (allC h58_good (allC h61_good allN)))) allN

/-! loop.example/g01297/impl.InnerPoints -/
def h6_t11 : Tpl := ⟨(.any :: (.ptr 64 0 0 :: (.any :: (.any :: (.sl 1152 :: (.int .i64 :: (.int .i64 :: (.int .i64 :: (.int .i64 :: (anyN 71 [])))))))))), [(64, .ints 2 27 .i64 6), (1152, .rows 2 25 .pt)], [], false⟩
def h6_p11 : PcS := loopS [.int, .int, .int, .int, .int, .int, .int, .int, .int, .int, .rows .pt] [3]
def h6_t8 : Tpl := ⟨(.any :: (.ptr 64 0 0 :: (.any :: (.any :: (.sl 1152 :: (.int .i64 :: (.int .i64 :: (.int .i64 :: (anyN 72 []))))))))), [(64, .ints 2 27 .i64 6), (1152, .rows 2 25 .pt)], [], false⟩
def h6_p8 : PcS := loopS [.int, .int, .int, .int, .int, .int, .int, .int, .int, .rows .pt] [1]
abbrev h6_x {α : Type} (F0 : T16 α) (F1 : T6 α) (F2 : T17 α) (G11 : T18 α) (G8 : T19 α) : Nat → Ctx α := ctxS M eqs jt0 [⟨9, S14, F0⟩, ⟨32, S15, F1⟩, ⟨33, S19, F2⟩] [lpT 11 h6_t11 h6_p11 R8 G11, lpT 8 h6_t8 h6_p8 R8 G8]
def h6_b11 {α : Type} (F2 : T17 α) (G11 : T18 α) (k : Nat) (low1 : Int) (high1 : Int) (x1 : Int) (y : Int) (t12 : Int) (t13 : Int) (t14 : Int) (t15 : Int) (t16 : Int) (t17 : Int) (out1 : List (Int × Int)) (b3 : Int → Int → Int → Int → Int → Int → Int → Int → Int → Int → (List (Int × Int)) → Option α) (r0 : Int → Option α) (r1 : (List (Int × Int)) → Int → Option α) : Option α :=
  bif decide (y ≤ high1) then
    F2 k t12 t13 t14 t15 t16 t17 x1 y fun v2 =>
    bif v2 then
      bif decide (((List.length out1) + 1) ≤ big) then
        G11 k low1 high1 x1 (w64 (y + 1)) t12 t13 t14 t15 t16 t17 (out1 ++ [(x1, y)]) b3 r0 r1
      else
        none
    else
      G11 k low1 high1 x1 (w64 (y + 1)) t12 t13 t14 t15 t16 t17 out1 b3 r0 r1
  else
    b3 low1 high1 x1 y t12 t13 t14 t15 t16 t17 out1
theorem h6_g11 {α : Type} (F0 : T16 α) (F1 : T6 α) (F2 : T17 α) (G11 : T18 α) (G8 : T19 α) (n : Nat) : GenL (α := α) Try.prog Try.f6 S20 (h6_x F0 F1 F2 G11 G8 n) 11 h6_t11 h6_p11 n G11 (h6_b11 F2 G11) := by intro _ _ _ _ _ _ _ _ _ _ _ _ _; kernel_rfl
def h6_b8 {α : Type} (G11 : T18 α) (G8 : T19 α) (k : Nat) (low : Int) (high : Int) (x : Int) (t6 : Int) (t7 : Int) (t8 : Int) (t9 : Int) (t10 : Int) (t11 : Int) (out : List (Int × Int)) (b1 : Int → Int → Int → Int → Int → Int → Int → Int → Int → (List (Int × Int)) → Option α) (r0 : Int → Option α) (r1 : (List (Int × Int)) → Int → Option α) : Option α :=
  bif decide (x ≤ (max (max t6 t8) t10)) then
    G11 k low high x low t6 t7 t8 t9 t10 t11 out
      (fun low2 high2 x2 _ t18 t19 t20 t21 t22 t23 out2 =>
        G8 k low2 high2 (w64 (x2 + 1)) t18 t19 t20 t21 t22 t23 out2 b1 r0 r1)
      r0 r1
  else
    b1 low high x t6 t7 t8 t9 t10 t11 out
theorem h6_g8 {α : Type} (F0 : T16 α) (F1 : T6 α) (F2 : T17 α) (G11 : T18 α) (G8 : T19 α) (n : Nat) : GenL (α := α) Try.prog Try.f6 S20 (h6_x F0 F1 F2 G11 G8 n) 8 h6_t8 h6_p8 n G8 (h6_b8 G11 G8) := by intro _ _ _ _ _ _ _ _ _ _ _ _; kernel_rfl
def h6_b {α : Type} (F0 : T16 α) (F1 : T6 α) (G8 : T19 α) (k : Nat) (t : Int) (t1 : Int) (t2 : Int) (t3 : Int) (t4 : Int) (t5 : Int) (r0 : Int → Option α) (r1 : (List (Int × Int)) → Int → Option α) : Option α :=
  F0 k t t1 t2 t3 t4 t5 fun v =>
  bif (!v) then
    r0 1
  else
    F1 k t t1 t2 t3 t4 t5 fun v1 =>
    bif decide (1000 < v1) then
      r0 3
    else
      G8 k (min (min t1 t3) t5) (max (max t1 t3) t5) (min (min t t2) t4) t t1 t2 t3 t4 t5 []
        (fun _ _ _ _ _ _ _ _ _ out3 =>
          r1 out3 0)
        r0 r1
theorem h6_g {α : Type} (F0 : T16 α) (F1 : T6 α) (F2 : T17 α) (G11 : T18 α) (G8 : T19 α) (n : Nat) : GenF (α := α) Try.prog Try.f6 S20 (h6_x F0 F1 F2 G11 G8 n) n (h6_b F0 F1 G8) := by intro _ _ _ _ _ _ _; kernel_rfl
theorem h6_good {α : Type} : ∀ n, GoodFn (α := α) Try.prog 6 (byShape S20.sh (callS S20 impl_InnerPoints n)) := good_of Try.func6 (by kernel_rfl) (by kernel_rfl) (by kernel_rfl) eqs_ok (fun n => h6_g impl_IsTriangle impl_Triangle_inner impl_Triangle_inside impl_InnerPoints_l11 impl_InnerPoints_l8 n) (by delta h6_b impl_InnerPoints; rfl) (allC h9_good (allC h32_good (allC h33_good allN))) (allC (loop_fine (by kernel_rfl) (fun n => by delta h6_b11; funext _ _ _ _ _ _ _ _ _ _ _ _ _ _; exact (impl_InnerPoints_l11.eq_2 ..).symm) (fun n => h6_g11 impl_IsTriangle impl_Triangle_inner impl_Triangle_inside impl_InnerPoints_l11 impl_InnerPoints_l8 n)) (allC (loop_fine (by kernel_rfl) (fun n => by delta h6_b8; funext _ _ _ _ _ _ _ _ _ _ _ _ _; exact (impl_InnerPoints_l8.eq_2 ..).symm) (fun n => h6_g8 impl_IsTriangle impl_Triangle_inner impl_Triangle_inside impl_InnerPoints_l11 impl_InnerPoints_l8 n)) allN))

/-! loop.example/g01297/spec.l01In -/
abbrev h51_x {α : Type}  : Nat → Ctx α := ctxS M eqs jt0 [] []
def h51_b {α : Type}  (_ : Nat) (n_ : Int) (low : Int) (high : Int) (r0 : Bool → Option α) : Option α :=
  bif decide (low ≤ n_) then
    r0 (decide (n_ ≤ high))
  else
    r0 false
theorem h51_g {α : Type}  (n : Nat) : GenF (α := α) Try.prog Try.f51 S10 (h51_x n) n (h51_b) := by intro _ _ _ _; kernel_rfl
theorem h51_good {α : Type} : ∀ n, GoodFn (α := α) Try.prog 51 (byShape S10.sh (callS S10 spec_l01In n)) := good_of Try.func51 (by kernel_rfl) (by kernel_rfl) (by kernel_rfl) eqs_ok (fun n => h51_g n) (by delta h51_b spec_l01In; rfl) allN allN

/-! loop.example/g01297/spec.l04Is -/
abbrev h34_x {α : Type} (F0 : T9 α) (F1 : T6 α) : Nat → Ctx α := ctxS M eqs jt0 [⟨51, S10, F0⟩, ⟨57, S6, F1⟩] []
def h34_b {α : Type} (F0 : T9 α) (F1 : T6 α) (k : Nat) (t : Int) (t1 : Int) (t2 : Int) (t3 : Int) (t4 : Int) (t5 : Int) (r0 : Bool → Option α) : Option α :=
  F0 k t (-1000) 1000 fun v =>
  bif (!v) then
    r0 false
  else
    F0 k t1 (-1000) 1000 fun v1 =>
    bif (!v1) then
      r0 false
    else
      F0 k t2 (-1000) 1000 fun v2 =>
      bif (!v2) then
        r0 false
      else
        F0 k t3 (-1000) 1000 fun v3 =>
        bif (!v3) then
          r0 false
        else
          F0 k t4 (-1000) 1000 fun v4 =>
          bif (!v4) then
            r0 false
          else
            F0 k t5 (-1000) 1000 fun v5 =>
            bif (!v5) then
              r0 false
            else
              F1 k t t1 t2 t3 t4 t5 fun v6 =>
              r0 (!decide (v6 = 0))
theorem h34_g {α : Type} (F0 : T9 α) (F1 : T6 α) (n : Nat) : GenF (α := α) Try.prog Try.f34 S14 (h34_x F0 F1 n) n (h34_b F0 F1) := by intro _ _ _ _ _ _ _; kernel_rfl
theorem h34_good {α : Type} : ∀ n, GoodFn (α := α) Try.prog 34 (byShape S14.sh (callS S14 spec_l04Is n)) := good_of Try.func34 (by kernel_rfl) (by kernel_rfl) (by kernel_rfl) eqs_ok (fun n => h34_g spec_l01In spec_l01Area n) (by delta h34_b spec_l04Is; rfl) (allC h51_good (allC h57_good allN)) allN

/-! loop.example/g01297/spec.l04Area -/
abbrev h42_x {α : Type} (F0 : T6 α) : Nat → Ctx α := ctxS M eqs jt0 [⟨57, S6, F0⟩] []
def h42_b {α : Type} (F0 : T6 α) (k : Nat) (t : Int) (t1 : Int) (t2 : Int) (t3 : Int) (t4 : Int) (t5 : Int) (r0 : Int → Option α) : Option α :=
  F0 k t t1 t2 t3 t4 t5 fun v =>
  r0 v
theorem h42_g {α : Type} (F0 : T6 α) (n : Nat) : GenF (α := α) Try.prog Try.f42 S15 (h42_x F0 n) n (h42_b F0) := by intro _ _ _ _ _ _ _; kernel_rfl
theorem h42_good {α : Type} : ∀ n, GoodFn (α := α) Try.prog 42 (byShape S15.sh (callS S15 spec_l04Area n)) := good_of Try.func42 (by kernel_rfl) (by kernel_rfl) (by kernel_rfl) eqs_ok (fun n => h42_g spec_l01Area n) (by delta h42_b spec_l04Area; rfl) (allC h57_good allN) allN

/-! loop.example/g01297/spec.l01Gcd -/
def h70_t1 : Tpl := ⟨(.int .i64 :: (.int .i64 :: (anyN 15 []))), [], [], false⟩
def h70_p1 : PcS := loopS [.int, .int] [0]
abbrev h70_x {α : Type} (G1 : T13 α) : Nat → Ctx α := ctxS M eqs jt0 [] [lpT 1 h70_t1 h70_p1 R5 G1]
def h70_b1 {α : Type} (G1 : T13 α) (k : Nat) (a1 : Int) (b_1 : Int) (b0 : Int → Int → Option α) (r0 : Int → Option α) : Option α :=
  bif (!decide (b_1 = 0)) then
    bif decide (b_1 = 0) then
      none
    else
      G1 k b_1 (Int.tmod a1 b_1) b0 r0
  else
    b0 a1 b_1
theorem h70_g1 {α : Type} (G1 : T13 α) (n : Nat) : GenL (α := α) Try.prog Try.f70 S17 (h70_x G1 n) 1 h70_t1 h70_p1 n G1 (h70_b1 G1) := by intro _ _ _ _; kernel_rfl
def h70_b {α : Type} (G1 : T13 α) (k : Nat) (a : Int) (b_ : Int) (r0 : Int → Option α) : Option α :=
  G1 k a b_
    (fun a2 _ =>
      r0 (max a2 (w64 (0 - a2))))
    r0
theorem h70_g {α : Type} (G1 : T13 α) (n : Nat) : GenF (α := α) Try.prog Try.f70 S17 (h70_x G1 n) n (h70_b G1) := by intro _ _ _; kernel_rfl
theorem h70_good {α : Type} : ∀ n, GoodFn (α := α) Try.prog 70 (byShape S17.sh (callS S17 spec_l01Gcd n)) := good_of Try.func70 (by kernel_rfl) (by kernel_rfl) (by kernel_rfl) eqs_ok (fun n => h70_g spec_l01Gcd_l1 n) (by delta h70_b spec_l01Gcd; rfl) allN (allC (loop_fine (by kernel_rfl) (fun n => by delta h70_b1; funext _ _ _ _; exact (spec_l01Gcd_l1.eq_2 ..).symm) (fun n => h70_g1 spec_l01Gcd_l1 n)) allN)

/-! loop.example/g01297/spec.l01Length -/
abbrev h66_x {α : Type} (F0 : T14 α) : Nat → Ctx α := ctxS M eqs jt0 [⟨70, S17, F0⟩] []
def h66_b {α : Type} (F0 : T14 α) (k : Nat) (a : Int) (a1 : Int) (b_ : Int) (b_1 : Int) (r0 : Int → Option α) : Option α :=
  F0 k (w64 (b_ - a)) (w64 (b_1 - a1)) fun v =>
  r0 v
theorem h66_g {α : Type} (F0 : T14 α) (n : Nat) : GenF (α := α) Try.prog Try.f66 S5 (h66_x F0 n) n (h66_b F0) := by intro _ _ _ _ _; kernel_rfl
theorem h66_good {α : Type} : ∀ n, GoodFn (α := α) Try.prog 66 (byShape S5.sh (callS S5 spec_l01Length n)) := good_of Try.func66 (by kernel_rfl) (by kernel_rfl) (by kernel_rfl) eqs_ok (fun n => h66_g spec_l01Gcd n) (by delta h66_b spec_l01Length; rfl) (allC h70_good allN) allN

/-! loop.example/g01297/spec.l04Boundary -/
abbrev h44_x {α : Type} (F0 : T3 α) : Nat → Ctx α := ctxS M eqs jt0 [⟨66, S5, F0⟩] []
def h44_b {α : Type} (F0 : T3 α) (k : Nat) (t : Int) (t1 : Int) (t2 : Int) (t3 : Int) (t4 : Int) (t5 : Int) (r0 : Int → Option α) : Option α :=
  F0 k t t1 t2 t3 fun v =>
  F0 k t2 t3 t4 t5 fun v1 =>
  F0 k t4 t5 t t1 fun v2 =>
  r0 (w64 ((w64 (v + v1)) + v2))
theorem h44_g {α : Type} (F0 : T3 α) (n : Nat) : GenF (α := α) Try.prog Try.f44 S15 (h44_x F0 n) n (h44_b F0) := by intro _ _ _ _ _ _ _; kernel_rfl
theorem h44_good {α : Type} : ∀ n, GoodFn (α := α) Try.prog 44 (byShape S15.sh (callS S15 spec_l04Boundary n)) := good_of Try.func44 (by kernel_rfl) (by kernel_rfl) (by kernel_rfl) eqs_ok (fun n => h44_g spec_l01Length n) (by delta h44_b spec_l04Boundary; rfl) (allC h66_good allN) allN

/-! loop.example/g01297/spec.l04Inner -/
abbrev h35_x {α : Type} (F0 : T6 α) (F1 : T6 α) : Nat → Ctx α := ctxS M eqs jt0 [⟨42, S15, F0⟩, ⟨44, S15, F1⟩] []
def h35_b {α : Type} (F0 : T6 α) (F1 : T6 α) (k : Nat) (t : Int) (t1 : Int) (t2 : Int) (t3 : Int) (t4 : Int) (t5 : Int) (r0 : Int → Option α) : Option α :=
  F0 k t t1 t2 t3 t4 t5 fun v =>
  F1 k t t1 t2 t3 t4 t5 fun v1 =>
  r0 (w64 ((w64 (Int.tdiv (w64 (v - v1)) 2)) + 1))
theorem h35_g {α : Type} (F0 : T6 α) (F1 : T6 α) (n : Nat) : GenF (α := α) Try.prog Try.f35 S15 (h35_x F0 F1 n) n (h35_b F0 F1) := by intro _ _ _ _ _ _ _; kernel_rfl
theorem h35_good {α : Type} : ∀ n, GoodFn (α := α) Try.prog 35 (byShape S15.sh (callS S15 spec_l04Inner n)) := good_of Try.func35 (by kernel_rfl) (by kernel_rfl) (by kernel_rfl) eqs_ok (fun n => h35_g spec_l04Area spec_l04Boundary n) (by delta h35_b spec_l04Inner; rfl) (allC h42_good (allC h44_good allN)) allN

/-! loop.example/g01297/spec.l04Side -/
abbrev h36_x {α : Type} (F0 : T2 α) (F1 : T3 α) : Nat → Ctx α := ctxS M eqs jt0 [⟨55, S4, F0⟩, ⟨62, S5, F1⟩] []
def h36_b {α : Type} (F0 : T2 α) (F1 : T3 α) (k : Nat) (t : Int) (t1 : Int) (t2 : Int) (t3 : Int) (t4 : Int) (t5 : Int) (i : Int) (a : Int) (a1 : Int) (r0 : Int → Option α) : Option α :=
  bif (decide (0 ≤ i) && decide (i < 3)) then
    ([t, t1, t2, t3, t4, t5][(i.toNat * 2)]?).bind fun e_ =>
    ([t, t1, t2, t3, t4, t5][((i.toNat * 2) + 1)]?).bind fun e_1 =>
    bif (decide (0 ≤ (Int.tmod (w64 (i + 1)) 3)) && decide ((Int.tmod (w64 (i + 1)) 3) < 3)) then
      ([t, t1, t2, t3, t4, t5][((Int.tmod (w64 (i + 1)) 3).toNat * 2)]?).bind fun e_2 =>
      ([t, t1, t2, t3, t4, t5][(((Int.tmod (w64 (i + 1)) 3).toNat * 2) + 1)]?).bind fun e_3 =>
      F0 k e_2 e_3 e_ e_1 (-1) fun v v1 =>
      F0 k a a1 e_ e_1 (-1) fun v2 v3 =>
      F1 k v v1 v2 v3 fun v4 =>
      r0 v4
    else
      none
  else
    none
theorem h36_g {α : Type} (F0 : T2 α) (F1 : T3 α) (n : Nat) : GenF (α := α) Try.prog Try.f36 S21 (h36_x F0 F1 n) n (h36_b F0 F1) := by intro _ _ _ _ _ _ _ _ _ _; kernel_rfl
theorem h36_good {α : Type} : ∀ n, GoodFn (α := α) Try.prog 36 (byShape S21.sh (callS S21 spec_l04Side n)) := good_of Try.func36 (by kernel_rfl) (by kernel_rfl) (by kernel_rfl) eqs_ok (fun n => h36_g spec_l01Plus spec_l01Det n) (by delta h36_b spec_l04Side; rfl) (allC h55_good (allC h62_good allN)) allN

/-! loop.example/g01297/spec.InnerPoints -/
def h7_t15 : Tpl := ⟨(.any :: (.ptr 64 0 0 :: (.any :: (.any :: (.int .i64 :: (.sl 1536 :: (.any :: (.int .i64 :: (.int .i64 :: (.int .i64 :: (.int .i64 :: (.int .i64 :: (anyN 95 []))))))))))))), [(64, .ints 2 27 .i64 6), (1536, .rows 2 25 .pt)], [], false⟩
def h7_p15 : PcS := loopS [.int, .int, .int, .int, .int, .int, .int, .int, .int, .int, .int, .int, .rows .pt] [2]
def h7_t12 : Tpl := ⟨(.any :: (.ptr 64 0 0 :: (.any :: (.any :: (.int .i64 :: (.sl 1536 :: (.any :: (.int .i64 :: (.int .i64 :: (.int .i64 :: (.int .i64 :: (anyN 96 [])))))))))))), [(64, .ints 2 27 .i64 6), (1536, .rows 2 25 .pt)], [], false⟩
def h7_p12 : PcS := loopS [.int, .int, .int, .int, .int, .int, .int, .int, .int, .int, .int, .rows .pt] [0]
abbrev h7_x {α : Type} (F0 : T16 α) (F1 : T6 α) (F2 : T20 α) (G15 : T21 α) (G12 : T22 α) : Nat → Ctx α := ctxS M eqs jt0 [⟨34, S14, F0⟩, ⟨35, S15, F1⟩, ⟨36, S21, F2⟩] [lpT 15 h7_t15 h7_p15 R8 G15, lpT 12 h7_t12 h7_p12 R8 G12]
def h7_b15 {α : Type} (F2 : T20 α) (G15 : T21 α) (k : Nat) (turn1 : Int) (high1 : Int) (from_1 : Int) (to1 : Int) (x1 : Int) (y : Int) (t12 : Int) (t13 : Int) (t14 : Int) (t15 : Int) (t16 : Int) (t17 : Int) (out1 : List (Int × Int)) (b2 : Int → Int → Int → Int → Int → Int → Int → Int → Int → Int → Int → Int → (List (Int × Int)) → Option α) (r0 : Int → Option α) (r1 : (List (Int × Int)) → Int → Option α) : Option α :=
  bif decide (y ≤ to1) then
    F2 k t12 t13 t14 t15 t16 t17 0 x1 y fun v3 =>
    bif decide (0 < (w64 (turn1 * v3))) then
      F2 k t12 t13 t14 t15 t16 t17 1 x1 y fun v4 =>
      bif decide (0 < (w64 (turn1 * v4))) then
        F2 k t12 t13 t14 t15 t16 t17 2 x1 y fun v5 =>
        bif decide (0 < (w64 (turn1 * v5))) then
          bif decide (((List.length out1) + 1) ≤ big) then
            G15 k turn1 high1 from_1 to1 x1 (w64 (y + 1)) t12 t13 t14 t15 t16 t17 (out1 ++ [(x1, y)]) b2 r0 r1
          else
            none
        else
          G15 k turn1 high1 from_1 to1 x1 (w64 (y + 1)) t12 t13 t14 t15 t16 t17 out1 b2 r0 r1
      else
        G15 k turn1 high1 from_1 to1 x1 (w64 (y + 1)) t12 t13 t14 t15 t16 t17 out1 b2 r0 r1
    else
      G15 k turn1 high1 from_1 to1 x1 (w64 (y + 1)) t12 t13 t14 t15 t16 t17 out1 b2 r0 r1
  else
    b2 turn1 high1 from_1 to1 x1 y t12 t13 t14 t15 t16 t17 out1
theorem h7_g15 {α : Type} (F0 : T16 α) (F1 : T6 α) (F2 : T20 α) (G15 : T21 α) (G12 : T22 α) (n : Nat) : GenL (α := α) Try.prog Try.f7 S20 (h7_x F0 F1 F2 G15 G12 n) 15 h7_t15 h7_p15 n G15 (h7_b15 F2 G15) := by intro _ _ _ _ _ _ _ _ _ _ _ _ _ _ _; kernel_rfl
def h7_b12 {α : Type} (G15 : T21 α) (G12 : T22 α) (k : Nat) (turn : Int) (high : Int) (from_ : Int) (to : Int) (x : Int) (t6 : Int) (t7 : Int) (t8 : Int) (t9 : Int) (t10 : Int) (t11 : Int) (out : List (Int × Int)) (b0 : Int → Int → Int → Int → Int → Int → Int → Int → Int → Int → Int → (List (Int × Int)) → Option α) (r0 : Int → Option α) (r1 : (List (Int × Int)) → Int → Option α) : Option α :=
  bif decide (x ≤ high) then
    G15 k turn high from_ to x from_ t6 t7 t8 t9 t10 t11 out
      (fun turn2 high2 from_2 to2 x2 _ t18 t19 t20 t21 t22 t23 out2 =>
        G12 k turn2 high2 from_2 to2 (w64 (x2 + 1)) t18 t19 t20 t21 t22 t23 out2 b0 r0 r1)
      r0 r1
  else
    b0 turn high from_ to x t6 t7 t8 t9 t10 t11 out
theorem h7_g12 {α : Type} (F0 : T16 α) (F1 : T6 α) (F2 : T20 α) (G15 : T21 α) (G12 : T22 α) (n : Nat) : GenL (α := α) Try.prog Try.f7 S20 (h7_x F0 F1 F2 G15 G12 n) 12 h7_t12 h7_p12 n G12 (h7_b12 G15 G12) := by intro _ _ _ _ _ _ _ _ _ _ _ _ _ _; kernel_rfl
def h7_b {α : Type} (F0 : T16 α) (F1 : T6 α) (F2 : T20 α) (G12 : T22 α) (k : Nat) (t : Int) (t1 : Int) (t2 : Int) (t3 : Int) (t4 : Int) (t5 : Int) (r0 : Int → Option α) (r1 : (List (Int × Int)) → Int → Option α) : Option α :=
  F0 k t t1 t2 t3 t4 t5 fun v =>
  bif (!v) then
    r0 1
  else
    F1 k t t1 t2 t3 t4 t5 fun v1 =>
    bif decide (1000 < v1) then
      r0 3
    else
      F2 k t t1 t2 t3 t4 t5 0 t4 t5 fun v2 =>
      bif decide (v2 < 0) then
        G12 k (-1) (max (max t t2) t4) (min (min t1 t3) t5) (max (max t1 t3) t5) (min (min t t2) t4) t t1 t2 t3 t4 t5 []
          (fun _ _ _ _ _ _ _ _ _ _ _ out3 =>
            r1 out3 0)
          r0 r1
      else
        G12 k 1 (max (max t t2) t4) (min (min t1 t3) t5) (max (max t1 t3) t5) (min (min t t2) t4) t t1 t2 t3 t4 t5 []
          (fun _ _ _ _ _ _ _ _ _ _ _ out4 =>
            r1 out4 0)
          r0 r1
theorem h7_g {α : Type} (F0 : T16 α) (F1 : T6 α) (F2 : T20 α) (G15 : T21 α) (G12 : T22 α) (n : Nat) : GenF (α := α) Try.prog Try.f7 S20 (h7_x F0 F1 F2 G15 G12 n) n (h7_b F0 F1 F2 G12) := by intro _ _ _ _ _ _ _; kernel_rfl
theorem h7_good {α : Type} : ∀ n, GoodFn (α := α) Try.prog 7 (byShape S20.sh (callS S20 spec_InnerPoints n)) := good_of Try.func7 (by kernel_rfl) (by kernel_rfl) (by kernel_rfl) eqs_ok (fun n => h7_g spec_l04Is spec_l04Inner spec_l04Side spec_InnerPoints_l15 spec_InnerPoints_l12 n) (by delta h7_b spec_InnerPoints; rfl) (allC h34_good (allC h35_good (allC h36_good allN))) (allC (loop_fine (by kernel_rfl) (fun n => by delta h7_b15; funext _ _ _ _ _ _ _ _ _ _ _ _ _ _ _ _; exact (spec_InnerPoints_l15.eq_2 ..).symm) (fun n => h7_g15 spec_l04Is spec_l04Inner spec_l04Side spec_InnerPoints_l15 spec_InnerPoints_l12 n)) (allC (loop_fine (by kernel_rfl) (fun n => by delta h7_b12; funext _ _ _ _ _ _ _ _ _ _ _ _ _ _ _; exact (spec_InnerPoints_l12.eq_2 ..).symm) (fun n => h7_g12 spec_l04Is spec_l04Inner spec_l04Side spec_InnerPoints_l15 spec_InnerPoints_l12 n)) allN))

/-! loop.example/g01297/laws.points9 -/
abbrev h8_x {α : Type}  : Nat → Ctx α := ctxS M eqs jt0 [] []
def h8_b {α : Type}  (_ : Nat) (r0 : Bool → Option α) : Option α :=
  r0 true
theorem h8_g {α : Type}  (n : Nat) : GenF (α := α) Try.prog Try.f8 S22 (h8_x n) n (h8_b) := by intro _; kernel_rfl
theorem h8_good {α : Type} : ∀ n, GoodFn (α := α) Try.prog 8 (byShape S22.sh (callS S22 laws_points9_0N_1N n)) := good_of Try.func8 (by kernel_rfl) (by kernel_rfl) (by kernel_rfl) eqs_ok (fun n => h8_g n) (by delta h8_b laws_points9_0N_1N; rfl) allN allN

/-! loop.example/g01297/spec.IsTriangle -/
abbrev h10_x {α : Type} (F0 : T16 α) : Nat → Ctx α := ctxS M eqs jt0 [⟨34, S14, F0⟩] []
def h10_b {α : Type} (F0 : T16 α) (k : Nat) (t : Int) (t1 : Int) (t2 : Int) (t3 : Int) (t4 : Int) (t5 : Int) (r0 : Bool → Option α) : Option α :=
  F0 k t t1 t2 t3 t4 t5 fun v =>
  r0 v
theorem h10_g {α : Type} (F0 : T16 α) (n : Nat) : GenF (α := α) Try.prog Try.f10 S14 (h10_x F0 n) n (h10_b F0) := by intro _ _ _ _ _ _ _; kernel_rfl
theorem h10_good {α : Type} : ∀ n, GoodFn (α := α) Try.prog 10 (byShape S14.sh (callS S14 spec_IsTriangle n)) := good_of Try.func10 (by kernel_rfl) (by kernel_rfl) (by kernel_rfl) eqs_ok (fun n => h10_g spec_l04Is n) (by delta h10_b spec_IsTriangle; rfl) (allC h34_good allN) allN

/-! loop.example/g01297/spec.DrawCountInner -/
abbrev h11_x {α : Type} (F0 : T8 α) (F1 : T7 α) : Nat → Ctx α := ctxS M eqs jt0 [⟨31, S1, F0⟩, ⟨39, S8, F1⟩] []
def h11_b {α : Type} (F0 : T8 α) (F1 : T7 α) (k : Nat) (code : List Int) (r0 : Int → Int → Int → Int → Int → Int → Option α) : Option α :=
  F0 k code fun v v1 =>
  F1 k code v v1 fun v2 v3 v4 v5 v6 v7 _ _ =>
  r0 v2 v3 v4 v5 v6 v7
theorem h11_g {α : Type} (F0 : T8 α) (F1 : T7 α) (n : Nat) : GenF (α := α) Try.prog Try.f11 S9 (h11_x F0 F1 n) n (h11_b F0 F1) := by intro _ _; kernel_rfl
theorem h11_good {α : Type} : ∀ n, GoodFn (α := α) Try.prog 11 (byShape S9.sh (callS S9 spec_DrawCountInner n)) := good_of Try.func11 (by kernel_rfl) (by kernel_rfl) (by kernel_rfl) eqs_ok (fun n => h11_g spec_l01From spec_l04Spoil n) (by delta h11_b spec_DrawCountInner; rfl) (allC h31_good (allC h39_good allN)) allN

/-! loop.example/g01297/impl.ofTriangle -/
abbrev h40_x {α : Type} (F0 : T16 α) (F1 : T6 α) : Nat → Ctx α := ctxS M eqs jt0 [⟨9, S14, F0⟩, ⟨32, S15, F1⟩] []
def h40_b {α : Type} (F0 : T16 α) (F1 : T6 α) (k : Nat) (t : Int) (t1 : Int) (t2 : Int) (t3 : Int) (t4 : Int) (t5 : Int) (r0 : Int → Int → Option α) : Option α :=
  F0 k t t1 t2 t3 t4 t5 fun v =>
  bif (!v) then
    r0 0 1
  else
    F1 k t t1 t2 t3 t4 t5 fun v1 =>
    r0 v1 0
theorem h40_g {α : Type} (F0 : T16 α) (F1 : T6 α) (n : Nat) : GenF (α := α) Try.prog Try.f40 S23 (h40_x F0 F1 n) n (h40_b F0 F1) := by intro _ _ _ _ _ _ _; kernel_rfl
theorem h40_good {α : Type} : ∀ n, GoodFn (α := α) Try.prog 40 (byShape S23.sh (callS S23 impl_ofTriangle_1F_impl_Triangle_inner n)) := good_of Try.func40 (by kernel_rfl) (by kernel_rfl) (by kernel_rfl) eqs_ok (fun n => h40_g impl_IsTriangle impl_Triangle_inner n) (by delta h40_b impl_ofTriangle_1F_impl_Triangle_inner; rfl) (allC h9_good (allC h32_good allN)) allN

/-! loop.example/g01297/impl.CountInner -/
abbrev h12_x {α : Type} (F0 : T23 α) : Nat → Ctx α := ctxS M eqs jt0 [⟨40, S23, F0⟩] []
def h12_b {α : Type} (F0 : T23 α) (k : Nat) (t : Int) (t1 : Int) (t2 : Int) (t3 : Int) (t4 : Int) (t5 : Int) (r0 : Int → Int → Option α) : Option α :=
  F0 k t t1 t2 t3 t4 t5 fun v v1 =>
  r0 v v1
theorem h12_g {α : Type} (F0 : T23 α) (n : Nat) : GenF (α := α) Try.prog Try.f12 S24 (h12_x F0 n) n (h12_b F0) := by intro _ _ _ _ _ _ _; kernel_rfl
theorem h12_good {α : Type} : ∀ n, GoodFn (α := α) Try.prog 12 (byShape S24.sh (callS S24 impl_CountInner n)) := good_of Try.func12 (by kernel_rfl) (by kernel_rfl) (by kernel_rfl) eqs_ok (fun n => h12_g impl_ofTriangle_1F_impl_Triangle_inner n) (by delta h12_b impl_CountInner; rfl) (allC h40_good allN) allN

/-! loop.example/g01297/spec.CountInner -/
abbrev h13_x {α : Type} (F0 : T16 α) (F1 : T6 α) : Nat → Ctx α := ctxS M eqs jt0 [⟨34, S14, F0⟩, ⟨35, S15, F1⟩] []
def h13_b {α : Type} (F0 : T16 α) (F1 : T6 α) (k : Nat) (t : Int) (t1 : Int) (t2 : Int) (t3 : Int) (t4 : Int) (t5 : Int) (r0 : Int → Int → Option α) : Option α :=
  F0 k t t1 t2 t3 t4 t5 fun v =>
  bif (!v) then
    r0 0 1
  else
    F1 k t t1 t2 t3 t4 t5 fun v1 =>
    r0 v1 0
theorem h13_g {α : Type} (F0 : T16 α) (F1 : T6 α) (n : Nat) : GenF (α := α) Try.prog Try.f13 S24 (h13_x F0 F1 n) n (h13_b F0 F1) := by intro _ _ _ _ _ _ _; kernel_rfl
theorem h13_good {α : Type} : ∀ n, GoodFn (α := α) Try.prog 13 (byShape S24.sh (callS S24 spec_CountInner n)) := good_of Try.func13 (by kernel_rfl) (by kernel_rfl) (by kernel_rfl) eqs_ok (fun n => h13_g spec_l04Is spec_l04Inner n) (by delta h13_b spec_CountInner; rfl) (allC h34_good (allC h35_good allN)) allN

/-! loop.example/g01297/impl.ofTriangle -/
abbrev h40a_x {α : Type} (F0 : T16 α) (F1 : T6 α) : Nat → Ctx α := ctxS M eqs jt0 [⟨9, S14, F0⟩, ⟨41, S15, F1⟩] []
def h40a_b {α : Type} (F0 : T16 α) (F1 : T6 α) (k : Nat) (t : Int) (t1 : Int) (t2 : Int) (t3 : Int) (t4 : Int) (t5 : Int) (r0 : Int → Int → Option α) : Option α :=
  F0 k t t1 t2 t3 t4 t5 fun v =>
  bif (!v) then
    r0 0 1
  else
    F1 k t t1 t2 t3 t4 t5 fun v1 =>
    r0 v1 0
theorem h40a_g {α : Type} (F0 : T16 α) (F1 : T6 α) (n : Nat) : GenF (α := α) Try.prog Try.f40 S25 (h40a_x F0 F1 n) n (h40a_b F0 F1) := by intro _ _ _ _ _ _ _; kernel_rfl
theorem h40a_good {α : Type} : ∀ n, GoodFn (α := α) Try.prog 40 (byShape S25.sh (callS S25 impl_ofTriangle_1F_impl_Triangle_area n)) := good_of Try.func40 (by kernel_rfl) (by kernel_rfl) (by kernel_rfl) eqs_ok (fun n => h40a_g impl_IsTriangle impl_Triangle_area n) (by delta h40a_b impl_ofTriangle_1F_impl_Triangle_area; rfl) (allC h9_good (allC h41_good allN)) allN

/-! loop.example/g01297/impl.AreaOfTriangle -/
abbrev h14_x {α : Type} (F0 : T23 α) : Nat → Ctx α := ctxS M eqs jt0 [⟨40, S25, F0⟩] []
def h14_b {α : Type} (F0 : T23 α) (k : Nat) (t : Int) (t1 : Int) (t2 : Int) (t3 : Int) (t4 : Int) (t5 : Int) (r0 : Int → Int → Option α) : Option α :=
  F0 k t t1 t2 t3 t4 t5 fun v v1 =>
  r0 v v1
theorem h14_g {α : Type} (F0 : T23 α) (n : Nat) : GenF (α := α) Try.prog Try.f14 S24 (h14_x F0 n) n (h14_b F0) := by intro _ _ _ _ _ _ _; kernel_rfl
theorem h14_good {α : Type} : ∀ n, GoodFn (α := α) Try.prog 14 (byShape S24.sh (callS S24 impl_AreaOfTriangle n)) := good_of Try.func14 (by kernel_rfl) (by kernel_rfl) (by kernel_rfl) eqs_ok (fun n => h14_g impl_ofTriangle_1F_impl_Triangle_area n) (by delta h14_b impl_AreaOfTriangle; rfl) (allC h40a_good allN) allN

/-! loop.example/g01297/spec.AreaOfTriangle -/
abbrev h15_x {α : Type} (F0 : T16 α) (F1 : T6 α) : Nat → Ctx α := ctxS M eqs jt0 [⟨34, S14, F0⟩, ⟨42, S15, F1⟩] []
def h15_b {α : Type} (F0 : T16 α) (F1 : T6 α) (k : Nat) (t : Int) (t1 : Int) (t2 : Int) (t3 : Int) (t4 : Int) (t5 : Int) (r0 : Int → Int → Option α) : Option α :=
  F0 k t t1 t2 t3 t4 t5 fun v =>
  bif (!v) then
    r0 0 1
  else
    F1 k t t1 t2 t3 t4 t5 fun v1 =>
    r0 v1 0
theorem h15_g {α : Type} (F0 : T16 α) (F1 : T6 α) (n : Nat) : GenF (α := α) Try.prog Try.f15 S24 (h15_x F0 F1 n) n (h15_b F0 F1) := by intro _ _ _ _ _ _ _; kernel_rfl
theorem h15_good {α : Type} : ∀ n, GoodFn (α := α) Try.prog 15 (byShape S24.sh (callS S24 spec_AreaOfTriangle n)) := good_of Try.func15 (by kernel_rfl) (by kernel_rfl) (by kernel_rfl) eqs_ok (fun n => h15_g spec_l04Is spec_l04Area n) (by delta h15_b spec_AreaOfTriangle; rfl) (allC h34_good (allC h42_good allN)) allN

/-! loop.example/g01297/impl.ofTriangle -/
abbrev h40b_x {α : Type} (F0 : T16 α) (F1 : T6 α) : Nat → Ctx α := ctxS M eqs jt0 [⟨9, S14, F0⟩, ⟨43, S15, F1⟩] []
def h40b_b {α : Type} (F0 : T16 α) (F1 : T6 α) (k : Nat) (t : Int) (t1 : Int) (t2 : Int) (t3 : Int) (t4 : Int) (t5 : Int) (r0 : Int → Int → Option α) : Option α :=
  F0 k t t1 t2 t3 t4 t5 fun v =>
  bif (!v) then
    r0 0 1
  else
    F1 k t t1 t2 t3 t4 t5 fun v1 =>
    r0 v1 0
theorem h40b_g {α : Type} (F0 : T16 α) (F1 : T6 α) (n : Nat) : GenF (α := α) Try.prog Try.f40 S26 (h40b_x F0 F1 n) n (h40b_b F0 F1) := by intro _ _ _ _ _ _ _; kernel_rfl
theorem h40b_good {α : Type} : ∀ n, GoodFn (α := α) Try.prog 40 (byShape S26.sh (callS S26 impl_ofTriangle_1F_impl_Triangle_boundary n)) := good_of Try.func40 (by kernel_rfl) (by kernel_rfl) (by kernel_rfl) eqs_ok (fun n => h40b_g impl_IsTriangle impl_Triangle_boundary n) (by delta h40b_b impl_ofTriangle_1F_impl_Triangle_boundary; rfl) (allC h9_good (allC h43_good allN)) allN

/-! loop.example/g01297/impl.BoundaryOf -/
abbrev h16_x {α : Type} (F0 : T23 α) : Nat → Ctx α := ctxS M eqs jt0 [⟨40, S26, F0⟩] []
def h16_b {α : Type} (F0 : T23 α) (k : Nat) (t : Int) (t1 : Int) (t2 : Int) (t3 : Int) (t4 : Int) (t5 : Int) (r0 : Int → Int → Option α) : Option α :=
  F0 k t t1 t2 t3 t4 t5 fun v v1 =>
  r0 v v1
theorem h16_g {α : Type} (F0 : T23 α) (n : Nat) : GenF (α := α) Try.prog Try.f16 S24 (h16_x F0 n) n (h16_b F0) := by intro _ _ _ _ _ _ _; kernel_rfl
theorem h16_good {α : Type} : ∀ n, GoodFn (α := α) Try.prog 16 (byShape S24.sh (callS S24 impl_BoundaryOf n)) := good_of Try.func16 (by kernel_rfl) (by kernel_rfl) (by kernel_rfl) eqs_ok (fun n => h16_g impl_ofTriangle_1F_impl_Triangle_boundary n) (by delta h16_b impl_BoundaryOf; rfl) (allC h40b_good allN) allN

/-! loop.example/g01297/spec.BoundaryOf -/
abbrev h17_x {α : Type} (F0 : T16 α) (F1 : T6 α) : Nat → Ctx α := ctxS M eqs jt0 [⟨34, S14, F0⟩, ⟨44, S15, F1⟩] []
def h17_b {α : Type} (F0 : T16 α) (F1 : T6 α) (k : Nat) (t : Int) (t1 : Int) (t2 : Int) (t3 : Int) (t4 : Int) (t5 : Int) (r0 : Int → Int → Option α) : Option α :=
  F0 k t t1 t2 t3 t4 t5 fun v =>
  bif (!v) then
    r0 0 1
  else
    F1 k t t1 t2 t3 t4 t5 fun v1 =>
    r0 v1 0
theorem h17_g {α : Type} (F0 : T16 α) (F1 : T6 α) (n : Nat) : GenF (α := α) Try.prog Try.f17 S24 (h17_x F0 F1 n) n (h17_b F0 F1) := by intro _ _ _ _ _ _ _; kernel_rfl
theorem h17_good {α : Type} : ∀ n, GoodFn (α := α) Try.prog 17 (byShape S24.sh (callS S24 spec_BoundaryOf n)) := good_of Try.func17 (by kernel_rfl) (by kernel_rfl) (by kernel_rfl) eqs_ok (fun n => h17_g spec_l04Is spec_l04Boundary n) (by delta h17_b spec_BoundaryOf; rfl) (allC h34_good (allC h44_good allN)) allN

/-! (loop.example/g01297/impl.Point).primitive -/
abbrev h67_x {α : Type} (F0 : T14 α) : Nat → Ctx α := ctxS M eqs jt0 [⟨65, S18, F0⟩] []
def h67_b {α : Type} (F0 : T14 α) (k : Nat) (a : Int) (a1 : Int) (r0 : Int → Int → Option α) : Option α :=
  F0 k a a1 fun v =>
  bif decide (v = 0) then
    none
  else
  bif decide (v = 0) then
    none
  else
    r0 (w64 (Int.tdiv a v)) (w64 (Int.tdiv a1 v))
theorem h67_g {α : Type} (F0 : T14 α) (n : Nat) : GenF (α := α) Try.prog Try.f67 S27 (h67_x F0 n) n (h67_b F0) := by intro _ _ _; kernel_rfl
theorem h67_good {α : Type} : ∀ n, GoodFn (α := α) Try.prog 67 (byShape S27.sh (callS S27 impl_Point_primitive n)) := good_of Try.func67 (by kernel_rfl) (by kernel_rfl) (by kernel_rfl) eqs_ok (fun n => h67_g impl_Point_length n) (by delta h67_b impl_Point_primitive; rfl) (allC h65_good allN) allN

/-! (loop.example/g01297/impl.Triangle).corner -/
abbrev h45_x {α : Type} (F0 : T15 α) (F1 : T24 α) : Nat → Ctx α := ctxS M eqs jt0 [⟨60, S16, F0⟩, ⟨67, S27, F1⟩] []
def h45_b {α : Type} (F0 : T15 α) (F1 : T24 α) (k : Nat) (t : Int) (t1 : Int) (t2 : Int) (t3 : Int) (t4 : Int) (t5 : Int) (i : Int) (r0 : Int → Int → Int → Int → Option α) : Option α :=
  F0 k t t1 t2 t3 t4 t5 i (Int.tmod (w64 (i + 1)) 3) fun v v1 =>
  F1 k v v1 fun v2 v3 =>
  F0 k t t1 t2 t3 t4 t5 i (Int.tmod (w64 (i + 2)) 3) fun v4 v5 =>
  F1 k v4 v5 fun v6 v7 =>
  r0 v2 v3 v6 v7
theorem h45_g {α : Type} (F0 : T15 α) (F1 : T24 α) (n : Nat) : GenF (α := α) Try.prog Try.f45 S28 (h45_x F0 F1 n) n (h45_b F0 F1) := by intro _ _ _ _ _ _ _ _; kernel_rfl
theorem h45_good {α : Type} : ∀ n, GoodFn (α := α) Try.prog 45 (byShape S28.sh (callS S28 impl_Triangle_corner n)) := good_of Try.func45 (by kernel_rfl) (by kernel_rfl) (by kernel_rfl) eqs_ok (fun n => h45_g impl_Triangle_side impl_Point_primitive n) (by delta h45_b impl_Triangle_corner; rfl) (allC h60_good (allC h67_good allN)) allN

/-! (loop.example/g01297/impl.Corner).sine -/
abbrev h46_x {α : Type} (F0 : T3 α) (F1 : T11 α) : Nat → Ctx α := ctxS M eqs jt0 [⟨59, S5, F0⟩, ⟨63, S13, F1⟩] []
def h46_b {α : Type} (F0 : T3 α) (F1 : T11 α) (k : Nat) (x : Int) (x1 : Int) (x2 : Int) (x3 : Int) (r0 : Int → Option α) : Option α :=
  F0 k x x1 x2 x3 fun v =>
  F1 k v fun v1 =>
  r0 v1
theorem h46_g {α : Type} (F0 : T3 α) (F1 : T11 α) (n : Nat) : GenF (α := α) Try.prog Try.f46 S29 (h46_x F0 F1 n) n (h46_b F0 F1) := by intro _ _ _ _ _; kernel_rfl
theorem h46_good {α : Type} : ∀ n, GoodFn (α := α) Try.prog 46 (byShape S29.sh (callS S29 impl_Corner_sine n)) := good_of Try.func46 (by kernel_rfl) (by kernel_rfl) (by kernel_rfl) eqs_ok (fun n => h46_g impl_det impl_size n) (by delta h46_b impl_Corner_sine; rfl) (allC h59_good (allC h63_good allN)) allN

/-! loop.example/g01297/impl.SinesOf -/
abbrev h18_x {α : Type} (F0 : T16 α) (F1 : T25 α) (F2 : T3 α) : Nat → Ctx α := ctxS M eqs jt0 [⟨9, S14, F0⟩, ⟨45, S28, F1⟩, ⟨46, S29, F2⟩] []
def h18_b {α : Type} (F0 : T16 α) (F1 : T25 α) (F2 : T3 α) (k : Nat) (t : Int) (t1 : Int) (t2 : Int) (t3 : Int) (t4 : Int) (t5 : Int) (r0 : Int → Option α) (r1 : List Int → Int → Option α) : Option α :=
  F0 k t t1 t2 t3 t4 t5 fun v =>
  bif (!v) then
    r0 1
  else
    F1 k t t1 t2 t3 t4 t5 0 fun v1 v2 v3 v4 =>
    F2 k v1 v2 v3 v4 fun v5 =>
    F1 k t t1 t2 t3 t4 t5 1 fun v6 v7 v8 v9 =>
    F2 k v6 v7 v8 v9 fun v10 =>
    F1 k t t1 t2 t3 t4 t5 2 fun v11 v12 v13 v14 =>
    F2 k v11 v12 v13 v14 fun v15 =>
    r1 [v5, v10, v15] 0
theorem h18_g {α : Type} (F0 : T16 α) (F1 : T25 α) (F2 : T3 α) (n : Nat) : GenF (α := α) Try.prog Try.f18 S30 (h18_x F0 F1 F2 n) n (h18_b F0 F1 F2) := by intro _ _ _ _ _ _ _; kernel_rfl
theorem h18_good {α : Type} : ∀ n, GoodFn (α := α) Try.prog 18 (byShape S30.sh (callS S30 impl_SinesOf n)) := good_of Try.func18 (by kernel_rfl) (by kernel_rfl) (by kernel_rfl) eqs_ok (fun n => h18_g impl_IsTriangle impl_Triangle_corner impl_Corner_sine n) (by delta h18_b impl_SinesOf; rfl) (allC h9_good (allC h45_good (allC h46_good allN))) allN

/-! loop.example/g01297/spec.l01Part -/
abbrev h68_x {α : Type} (F0 : T14 α) : Nat → Ctx α := ctxS M eqs jt0 [⟨70, S17, F0⟩] []
def h68_b {α : Type} (F0 : T14 α) (k : Nat) (a : Int) (a1 : Int) (r0 : Int → Int → Option α) : Option α :=
  F0 k a a1 fun v =>
  bif decide (v = 0) then
    none
  else
  bif decide (v = 0) then
    none
  else
    r0 (w64 (Int.tdiv a v)) (w64 (Int.tdiv a1 v))
theorem h68_g {α : Type} (F0 : T14 α) (n : Nat) : GenF (α := α) Try.prog Try.f68 S27 (h68_x F0 n) n (h68_b F0) := by intro _ _ _; kernel_rfl
theorem h68_good {α : Type} : ∀ n, GoodFn (α := α) Try.prog 68 (byShape S27.sh (callS S27 spec_l01Part n)) := good_of Try.func68 (by kernel_rfl) (by kernel_rfl) (by kernel_rfl) eqs_ok (fun n => h68_g spec_l01Gcd n) (by delta h68_b spec_l01Part; rfl) (allC h70_good allN) allN

/-! loop.example/g01297/spec.l04Corner -/
abbrev h48_x {α : Type} (F0 : T2 α) (F1 : T24 α) : Nat → Ctx α := ctxS M eqs jt0 [⟨55, S4, F0⟩, ⟨68, S27, F1⟩] []
def h48_b {α : Type} (F0 : T2 α) (F1 : T24 α) (k : Nat) (t : Int) (t1 : Int) (t2 : Int) (t3 : Int) (t4 : Int) (t5 : Int) (i : Int) (r0 : Int → Int → Int → Int → Option α) : Option α :=
  bif (decide (0 ≤ i) && decide (i < 3)) then
    ([t, t1, t2, t3, t4, t5][(i.toNat * 2)]?).bind fun e_ =>
    ([t, t1, t2, t3, t4, t5][((i.toNat * 2) + 1)]?).bind fun e_1 =>
    bif (decide (0 ≤ (Int.tmod (w64 (i + 1)) 3)) && decide ((Int.tmod (w64 (i + 1)) 3) < 3)) then
      ([t, t1, t2, t3, t4, t5][((Int.tmod (w64 (i + 1)) 3).toNat * 2)]?).bind fun e_2 =>
      ([t, t1, t2, t3, t4, t5][(((Int.tmod (w64 (i + 1)) 3).toNat * 2) + 1)]?).bind fun e_3 =>
      bif (decide (0 ≤ (Int.tmod (w64 (i + 2)) 3)) && decide ((Int.tmod (w64 (i + 2)) 3) < 3)) then
        ([t, t1, t2, t3, t4, t5][((Int.tmod (w64 (i + 2)) 3).toNat * 2)]?).bind fun e_4 =>
        ([t, t1, t2, t3, t4, t5][(((Int.tmod (w64 (i + 2)) 3).toNat * 2) + 1)]?).bind fun e_5 =>
        F0 k e_2 e_3 e_ e_1 (-1) fun v v1 =>
        F1 k v v1 fun v2 v3 =>
        F0 k e_4 e_5 e_ e_1 (-1) fun v4 v5 =>
        F1 k v4 v5 fun v6 v7 =>
        r0 v2 v3 v6 v7
      else
        none
    else
      none
  else
    none
theorem h48_g {α : Type} (F0 : T2 α) (F1 : T24 α) (n : Nat) : GenF (α := α) Try.prog Try.f48 S28 (h48_x F0 F1 n) n (h48_b F0 F1) := by intro _ _ _ _ _ _ _ _; kernel_rfl
theorem h48_good {α : Type} : ∀ n, GoodFn (α := α) Try.prog 48 (byShape S28.sh (callS S28 spec_l04Corner n)) := good_of Try.func48 (by kernel_rfl) (by kernel_rfl) (by kernel_rfl) eqs_ok (fun n => h48_g spec_l01Plus spec_l01Part n) (by delta h48_b spec_l04Corner; rfl) (allC h55_good (allC h68_good allN)) allN

/-! loop.example/g01297/spec.l02Sine -/
abbrev h47_x {α : Type} (F0 : T3 α) : Nat → Ctx α := ctxS M eqs jt0 [⟨62, S5, F0⟩] []
def h47_b {α : Type} (F0 : T3 α) (k : Nat) (x : Int) (x1 : Int) (x2 : Int) (x3 : Int) (r0 : Int → Option α) : Option α :=
  F0 k x x1 x2 x3 fun v =>
  r0 (max v (w64 (0 - v)))
theorem h47_g {α : Type} (F0 : T3 α) (n : Nat) : GenF (α := α) Try.prog Try.f47 S29 (h47_x F0 n) n (h47_b F0) := by intro _ _ _ _ _; kernel_rfl
theorem h47_good {α : Type} : ∀ n, GoodFn (α := α) Try.prog 47 (byShape S29.sh (callS S29 spec_l02Sine n)) := good_of Try.func47 (by kernel_rfl) (by kernel_rfl) (by kernel_rfl) eqs_ok (fun n => h47_g spec_l01Det n) (by delta h47_b spec_l02Sine; rfl) (allC h62_good allN) allN

/-! loop.example/g01297/spec.SinesOf -/
abbrev h19_x {α : Type} (F0 : T16 α) (F1 : T25 α) (F2 : T3 α) : Nat → Ctx α := ctxS M eqs jt0 [⟨34, S14, F0⟩, ⟨48, S28, F1⟩, ⟨47, S29, F2⟩] []
def h19_b {α : Type} (F0 : T16 α) (F1 : T25 α) (F2 : T3 α) (k : Nat) (t : Int) (t1 : Int) (t2 : Int) (t3 : Int) (t4 : Int) (t5 : Int) (r0 : Int → Option α) (r1 : List Int → Int → Option α) : Option α :=
  F0 k t t1 t2 t3 t4 t5 fun v =>
  bif (!v) then
    r0 1
  else
    F1 k t t1 t2 t3 t4 t5 0 fun v1 v2 v3 v4 =>
    F2 k v1 v2 v3 v4 fun v5 =>
    F1 k t t1 t2 t3 t4 t5 1 fun v6 v7 v8 v9 =>
    F2 k v6 v7 v8 v9 fun v10 =>
    F1 k t t1 t2 t3 t4 t5 2 fun v11 v12 v13 v14 =>
    F2 k v11 v12 v13 v14 fun v15 =>
    r1 [v5, v10, v15] 0
theorem h19_g {α : Type} (F0 : T16 α) (F1 : T25 α) (F2 : T3 α) (n : Nat) : GenF (α := α) Try.prog Try.f19 S30 (h19_x F0 F1 F2 n) n (h19_b F0 F1 F2) := by intro _ _ _ _ _ _ _; kernel_rfl
theorem h19_good {α : Type} : ∀ n, GoodFn (α := α) Try.prog 19 (byShape S30.sh (callS S30 spec_SinesOf n)) := good_of Try.func19 (by kernel_rfl) (by kernel_rfl) (by kernel_rfl) eqs_ok (fun n => h19_g spec_l04Is spec_l04Corner spec_l02Sine n) (by delta h19_b spec_SinesOf; rfl) (allC h34_good (allC h48_good (allC h47_good allN))) allN

/-! loop.example/g01297/laws.likeInts -/
abbrev h20_x {α : Type}  : Nat → Ctx α := ctxS M eqs jt0 [] []
def h20_b {α : Type}  (_ : Nat) (r0 : Bool → Option α) : Option α :=
  r0 true
theorem h20_g {α : Type}  (n : Nat) : GenF (α := α) Try.prog Try.f20 S22 (h20_x n) n (h20_b) := by intro _; kernel_rfl
theorem h20_good {α : Type} : ∀ n, GoodFn (α := α) Try.prog 20 (byShape S22.sh (callS S22 laws_likeInts_0N_1N n)) := good_of Try.func20 (by kernel_rfl) (by kernel_rfl) (by kernel_rfl) eqs_ok (fun n => h20_g n) (by delta h20_b laws_likeInts_0N_1N; rfl) allN allN

/-! loop.example/g01297/spec.DrawCornerAt -/
abbrev h21_x {α : Type} (F0 : T8 α) (F1 : T7 α) (F2 : T1 α) : Nat → Ctx α := ctxS M eqs jt0 [⟨31, S1, F0⟩, ⟨39, S8, F1⟩, ⟨49, S2, F2⟩] []
def h21_b {α : Type} (F0 : T8 α) (F1 : T7 α) (F2 : T1 α) (k : Nat) (code : List Int) (r0 : Int → Int → Int → Int → Int → Int → Int → Option α) : Option α :=
  F0 k code fun v v1 =>
  F1 k code v v1 fun v2 v3 v4 v5 v6 v7 v8 v9 =>
  F2 k code v8 v9 16 fun v10 v11 v12 =>
  F2 k code v11 v12 (w64 (3 + (w64 (Int.tdiv v10 15)))) fun v13 _ _ =>
  r0 v2 v3 v4 v5 v6 v7 v13
theorem h21_g {α : Type} (F0 : T8 α) (F1 : T7 α) (F2 : T1 α) (n : Nat) : GenF (α := α) Try.prog Try.f21 S31 (h21_x F0 F1 F2 n) n (h21_b F0 F1 F2) := by intro _ _; kernel_rfl
theorem h21_good {α : Type} : ∀ n, GoodFn (α := α) Try.prog 21 (byShape S31.sh (callS S31 spec_DrawCornerAt n)) := good_of Try.func21 (by kernel_rfl) (by kernel_rfl) (by kernel_rfl) eqs_ok (fun n => h21_g spec_l01From spec_l04Spoil spec_l01Next n) (by delta h21_b spec_DrawCornerAt; rfl) (allC h31_good (allC h39_good (allC h49_good allN))) allN

/-! loop.example/g01297/impl.CornerAt -/
abbrev h22_x {α : Type} (F0 : T16 α) (F1 : T9 α) (F2 : T25 α) : Nat → Ctx α := ctxS M eqs jt0 [⟨9, S14, F0⟩, ⟨50, S10, F1⟩, ⟨45, S28, F2⟩] []
def h22_b {α : Type} (F0 : T16 α) (F1 : T9 α) (F2 : T25 α) (k : Nat) (t : Int) (t1 : Int) (t2 : Int) (t3 : Int) (t4 : Int) (t5 : Int) (i : Int) (r0 : Int → Int → Int → Int → Int → Option α) : Option α :=
  F0 k t t1 t2 t3 t4 t5 fun v =>
  bif (!v) then
    r0 0 0 0 0 1
  else
    F1 k i 0 2 fun v1 =>
    bif (!v1) then
      r0 0 0 0 0 2
    else
      F2 k t t1 t2 t3 t4 t5 i fun v2 v3 v4 v5 =>
      r0 v2 v3 v4 v5 0
theorem h22_g {α : Type} (F0 : T16 α) (F1 : T9 α) (F2 : T25 α) (n : Nat) : GenF (α := α) Try.prog Try.f22 S32 (h22_x F0 F1 F2 n) n (h22_b F0 F1 F2) := by intro _ _ _ _ _ _ _ _; kernel_rfl
theorem h22_good {α : Type} : ∀ n, GoodFn (α := α) Try.prog 22 (byShape S32.sh (callS S32 impl_CornerAt n)) := good_of Try.func22 (by kernel_rfl) (by kernel_rfl) (by kernel_rfl) eqs_ok (fun n => h22_g impl_IsTriangle impl_in impl_Triangle_corner n) (by delta h22_b impl_CornerAt; rfl) (allC h9_good (allC h50_good (allC h45_good allN))) allN

/-! loop.example/g01297/spec.CornerAt -/
abbrev h23_x {α : Type} (F0 : T16 α) (F1 : T9 α) (F2 : T25 α) : Nat → Ctx α := ctxS M eqs jt0 [⟨34, S14, F0⟩, ⟨51, S10, F1⟩, ⟨48, S28, F2⟩] []
def h23_b {α : Type} (F0 : T16 α) (F1 : T9 α) (F2 : T25 α) (k : Nat) (t : Int) (t1 : Int) (t2 : Int) (t3 : Int) (t4 : Int) (t5 : Int) (i : Int) (r0 : Int → Int → Int → Int → Int → Option α) : Option α :=
  F0 k t t1 t2 t3 t4 t5 fun v =>
  bif (!v) then
    r0 0 0 0 0 1
  else
    F1 k i 0 2 fun v1 =>
    bif (!v1) then
      r0 0 0 0 0 2
    else
      F2 k t t1 t2 t3 t4 t5 i fun v2 v3 v4 v5 =>
      r0 v2 v3 v4 v5 0
theorem h23_g {α : Type} (F0 : T16 α) (F1 : T9 α) (F2 : T25 α) (n : Nat) : GenF (α := α) Try.prog Try.f23 S32 (h23_x F0 F1 F2 n) n (h23_b F0 F1 F2) := by intro _ _ _ _ _ _ _ _; kernel_rfl
theorem h23_good {α : Type} : ∀ n, GoodFn (α := α) Try.prog 23 (byShape S32.sh (callS S32 spec_CornerAt n)) := good_of Try.func23 (by kernel_rfl) (by kernel_rfl) (by kernel_rfl) eqs_ok (fun n => h23_g spec_l04Is spec_l01In spec_l04Corner n) (by delta h23_b spec_CornerAt; rfl) (allC h34_good (allC h51_good (allC h48_good allN))) allN

/-! loop.example/g01297/spec.l01Near -/
abbrev h53_x {α : Type} (F0 : T1 α) (F1 : T4 α) : Nat → Ctx α := ctxS M eqs jt0 [⟨49, S2, F0⟩, ⟨52, S7, F1⟩] []
def h53_b {α : Type} (F0 : T1 α) (F1 : T4 α) (k : Nat) (s : List Int) (s1 : Int) (s2 : Int) (most : Int) (r0 : Int → Int → Int → Option α) : Option α :=
  F0 k s s1 s2 14 fun v v1 v2 =>
  bif decide (v = 0) then
    F1 k s v1 v2 [(-1), (w64 (most + 1)), 1099511627776, (-4611686018427387904)] fun v3 v4 v5 =>
    r0 v3 v4 v5
  else
    F0 k s v1 v2 (w64 (most + 1)) fun v6 v7 v8 =>
    r0 v6 v7 v8
theorem h53_g {α : Type} (F0 : T1 α) (F1 : T4 α) (n : Nat) : GenF (α := α) Try.prog Try.f53 S2 (h53_x F0 F1 n) n (h53_b F0 F1) := by intro _ _ _ _ _; kernel_rfl
theorem h53_good {α : Type} : ∀ n, GoodFn (α := α) Try.prog 53 (byShape S2.sh (callS S2 spec_l01Near n)) := good_of Try.func53 (by kernel_rfl) (by kernel_rfl) (by kernel_rfl) eqs_ok (fun n => h53_g spec_l01Next spec_l01Pick n) (by delta h53_b spec_l01Near; rfl) (allC h49_good (allC h52_good allN)) allN

/-! loop.example/g01297/spec.DrawMultipleOf -/
abbrev h24_x {α : Type} (F0 : T8 α) (F1 : T7 α) (F2 : T1 α) (F3 : T4 α) : Nat → Ctx α := ctxS M eqs jt0 [⟨31, S1, F0⟩, ⟨30, S8, F1⟩, ⟨53, S2, F2⟩, ⟨52, S7, F3⟩] []
def h24_b {α : Type} (F0 : T8 α) (F1 : T7 α) (F2 : T1 α) (F3 : T4 α) (k : Nat) (code : List Int) (r0 : Int → Int → Int → Int → Int → Int → Int → Option α) : Option α :=
  F0 k code fun v v1 =>
  F1 k code v v1 fun v2 v3 v4 v5 v6 v7 v8 v9 =>
  F2 k code v8 v9 1000 fun v10 v11 v12 =>
  F3 k code v11 v12 [1, 2, 3, v10] fun v13 _ _ =>
  r0 v2 v3 v4 v5 v6 v7 v13
theorem h24_g {α : Type} (F0 : T8 α) (F1 : T7 α) (F2 : T1 α) (F3 : T4 α) (n : Nat) : GenF (α := α) Try.prog Try.f24 S31 (h24_x F0 F1 F2 F3 n) n (h24_b F0 F1 F2 F3) := by intro _ _; kernel_rfl
theorem h24_good {α : Type} : ∀ n, GoodFn (α := α) Try.prog 24 (byShape S31.sh (callS S31 spec_DrawMultipleOf n)) := good_of Try.func24 (by kernel_rfl) (by kernel_rfl) (by kernel_rfl) eqs_ok (fun n => h24_g spec_l01From spec_l04Small spec_l01Near spec_l01Pick n) (by delta h24_b spec_DrawMultipleOf; rfl) (allC h31_good (allC h30_good (allC h53_good (allC h52_good allN)))) allN

/-! loop.example/g01297/impl.MultipleOf -/
abbrev h25_x {α : Type} (F0 : T16 α) (F1 : T9 α) (F2 : T2 α) : Nat → Ctx α := ctxS M eqs jt0 [⟨9, S14, F0⟩, ⟨50, S10, F1⟩, ⟨54, S4, F2⟩] []
def h25_b {α : Type} (F0 : T16 α) (F1 : T9 α) (F2 : T2 α) (k : Nat) (t : Int) (t1 : Int) (t2 : Int) (t3 : Int) (t4 : Int) (t5 : Int) (k_ : Int) (r0 : Int → Int → Int → Int → Int → Int → Int → Option α) : Option α :=
  F0 k t t1 t2 t3 t4 t5 fun v =>
  bif (!v) then
    r0 0 0 0 0 0 0 1
  else
    F1 k k_ 1 1000 fun v1 =>
    bif (!v1) then
      r0 0 0 0 0 0 0 2
    else
      F2 k 0 0 t t1 k_ fun v2 v3 =>
      F2 k 0 0 t2 t3 k_ fun v4 v5 =>
      F2 k 0 0 t4 t5 k_ fun v6 v7 =>
      F0 k v2 v3 v4 v5 v6 v7 fun v8 =>
      bif (!v8) then
        r0 0 0 0 0 0 0 3
      else
        r0 v2 v3 v4 v5 v6 v7 0
theorem h25_g {α : Type} (F0 : T16 α) (F1 : T9 α) (F2 : T2 α) (n : Nat) : GenF (α := α) Try.prog Try.f25 S33 (h25_x F0 F1 F2 n) n (h25_b F0 F1 F2) := by intro _ _ _ _ _ _ _ _; kernel_rfl
theorem h25_good {α : Type} : ∀ n, GoodFn (α := α) Try.prog 25 (byShape S33.sh (callS S33 impl_MultipleOf n)) := good_of Try.func25 (by kernel_rfl) (by kernel_rfl) (by kernel_rfl) eqs_ok (fun n => h25_g impl_IsTriangle impl_in impl_Point_plus n) (by delta h25_b impl_MultipleOf; rfl) (allC h9_good (allC h50_good (allC h54_good allN))) allN

/-! loop.example/g01297/spec.MultipleOf -/
abbrev h26_x {α : Type} (F0 : T16 α) (F1 : T9 α) : Nat → Ctx α := ctxS M eqs jt0 [⟨34, S14, F0⟩, ⟨51, S10, F1⟩] []
def h26_b {α : Type} (F0 : T16 α) (F1 : T9 α) (k : Nat) (t : Int) (t1 : Int) (t2 : Int) (t3 : Int) (t4 : Int) (t5 : Int) (k_ : Int) (r0 : Int → Int → Int → Int → Int → Int → Int → Option α) : Option α :=
  F0 k t t1 t2 t3 t4 t5 fun v =>
  bif (!v) then
    r0 0 0 0 0 0 0 1
  else
    F1 k k_ 1 1000 fun v1 =>
    bif (!v1) then
      r0 0 0 0 0 0 0 2
    else
      F0 k (w64 (k_ * t)) (w64 (k_ * t1)) (w64 (k_ * t2)) (w64 (k_ * t3)) (w64 (k_ * t4)) (w64 (k_ * t5)) fun v2 =>
      bif (!v2) then
        r0 0 0 0 0 0 0 3
      else
        r0 (w64 (k_ * t)) (w64 (k_ * t1)) (w64 (k_ * t2)) (w64 (k_ * t3)) (w64 (k_ * t4)) (w64 (k_ * t5)) 0
theorem h26_g {α : Type} (F0 : T16 α) (F1 : T9 α) (n : Nat) : GenF (α := α) Try.prog Try.f26 S33 (h26_x F0 F1 n) n (h26_b F0 F1) := by intro _ _ _ _ _ _ _ _; kernel_rfl
theorem h26_good {α : Type} : ∀ n, GoodFn (α := α) Try.prog 26 (byShape S33.sh (callS S33 spec_MultipleOf n)) := good_of Try.func26 (by kernel_rfl) (by kernel_rfl) (by kernel_rfl) eqs_ok (fun n => h26_g spec_l04Is spec_l01In n) (by delta h26_b spec_MultipleOf; rfl) (allC h34_good (allC h51_good allN)) allN

/-! loop.example/g01297/spec.DrawSplitTriangle -/
abbrev h27_x {α : Type} (F0 : T8 α) (F1 : T7 α) (F2 : T1 α) : Nat → Ctx α := ctxS M eqs jt0 [⟨31, S1, F0⟩, ⟨39, S8, F1⟩, ⟨49, S2, F2⟩] []
def h27_b {α : Type} (F0 : T8 α) (F1 : T7 α) (F2 : T1 α) (k : Nat) (code : List Int) (r0 : Int → Int → Int → Int → Int → Int → Int → Option α) : Option α :=
  F0 k code fun v v1 =>
  F1 k code v v1 fun v2 v3 v4 v5 v6 v7 v8 v9 =>
  F2 k code v8 v9 16 fun v10 v11 v12 =>
  F2 k code v11 v12 (w64 (3 + (w64 (Int.tdiv v10 15)))) fun v13 v14 v15 =>
  F2 k code v14 v15 3 fun v16 _ _ =>
  bif decide (0 < v16) then
    r0 (w64 ((w64 (Int.tdiv v2 2)) * 2)) (w64 ((w64 (Int.tdiv v3 2)) * 2)) (w64 ((w64 (Int.tdiv v4 2)) * 2)) (w64 ((w64 (Int.tdiv v5 2)) * 2)) (w64 ((w64 (Int.tdiv v6 2)) * 2)) (w64 ((w64 (Int.tdiv v7 2)) * 2)) v13
  else
    r0 v2 v3 v4 v5 v6 v7 v13
theorem h27_g {α : Type} (F0 : T8 α) (F1 : T7 α) (F2 : T1 α) (n : Nat) : GenF (α := α) Try.prog Try.f27 S31 (h27_x F0 F1 F2 n) n (h27_b F0 F1 F2) := by intro _ _; kernel_rfl
theorem h27_good {α : Type} : ∀ n, GoodFn (α := α) Try.prog 27 (byShape S31.sh (callS S31 spec_DrawSplitTriangle n)) := good_of Try.func27 (by kernel_rfl) (by kernel_rfl) (by kernel_rfl) eqs_ok (fun n => h27_g spec_l01From spec_l04Spoil spec_l01Next n) (by delta h27_b spec_DrawSplitTriangle; rfl) (allC h31_good (allC h39_good (allC h49_good allN))) allN

/-! loop.example/g01297/impl.SplitTriangle -/
abbrev h28_x {α : Type} (F0 : T16 α) (F1 : T9 α) (F2 : T2 α) : Nat → Ctx α := ctxS M eqs jt0 [⟨9, S14, F0⟩, ⟨50, S10, F1⟩, ⟨54, S4, F2⟩] []
def h28_b {α : Type} (F0 : T16 α) (F1 : T9 α) (F2 : T2 α) (k : Nat) (t : Int) (t1 : Int) (t2 : Int) (t3 : Int) (t4 : Int) (t5 : Int) (i : Int) (r0 : Int → Option α) (r1 : (List (Int × Int × Int × Int × Int × Int)) → Int → Option α) : Option α :=
  F0 k t t1 t2 t3 t4 t5 fun v =>
  bif (!v) then
    r0 1
  else
    F1 k i 0 2 fun v1 =>
    bif (!v1) then
      r0 2
    else
    bif (decide (0 ≤ (Int.tmod (w64 (i + 1)) 3)) && decide ((Int.tmod (w64 (i + 1)) 3) < 3)) then
      ([t, t1, t2, t3, t4, t5][((Int.tmod (w64 (i + 1)) 3).toNat * 2)]?).bind fun e_ =>
      ([t, t1, t2, t3, t4, t5][(((Int.tmod (w64 (i + 1)) 3).toNat * 2) + 1)]?).bind fun e_1 =>
      bif (decide (0 ≤ (Int.tmod (w64 (i + 2)) 3)) && decide ((Int.tmod (w64 (i + 2)) 3) < 3)) then
        ([t, t1, t2, t3, t4, t5][((Int.tmod (w64 (i + 2)) 3).toNat * 2)]?).bind fun e_2 =>
        ([t, t1, t2, t3, t4, t5][(((Int.tmod (w64 (i + 2)) 3).toNat * 2) + 1)]?).bind fun e_3 =>
        F2 k e_ e_1 e_2 e_3 1 fun v2 v3 =>
        bif (!decide ((Int.tmod v2 2) = 0)) then
          r0 5
        else
        bif (!decide ((Int.tmod v3 2) = 0)) then
          r0 5
        else
        bif (decide (0 ≤ (Int.tmod (w64 (i + 1)) 3)) && decide ((Int.tmod (w64 (i + 1)) 3) < 3)) then
          bif Nat.ble (((Int.tmod (w64 (i + 1)) 3).toNat * 2) + 2) 6 then
            bif (decide (0 ≤ (Int.tmod (w64 (i + 2)) 3)) && decide ((Int.tmod (w64 (i + 2)) 3) < 3)) then
              bif Nat.ble (((Int.tmod (w64 (i + 2)) 3).toNat * 2) + 2) 6 then
                r1 [(bif Nat.beq ((Int.tmod (w64 (i + 1)) 3).toNat * 2) 4 then (t, t1, t2, t3, (w64 (Int.tdiv v2 2)), (w64 (Int.tdiv v3 2))) else bif Nat.beq ((Int.tmod (w64 (i + 1)) 3).toNat * 2) 3 then (t, t1, t2, (w64 (Int.tdiv v2 2)), (w64 (Int.tdiv v3 2)), t5) else bif Nat.beq ((Int.tmod (w64 (i + 1)) 3).toNat * 2) 2 then (t, t1, (w64 (Int.tdiv v2 2)), (w64 (Int.tdiv v3 2)), t4, t5) else bif Nat.beq ((Int.tmod (w64 (i + 1)) 3).toNat * 2) 1 then (t, (w64 (Int.tdiv v2 2)), (w64 (Int.tdiv v3 2)), t3, t4, t5) else bif Nat.beq ((Int.tmod (w64 (i + 1)) 3).toNat * 2) 0 then ((w64 (Int.tdiv v2 2)), (w64 (Int.tdiv v3 2)), t2, t3, t4, t5) else (t, t1, t2, t3, t4, t5)), (bif Nat.beq ((Int.tmod (w64 (i + 2)) 3).toNat * 2) 4 then (t, t1, t2, t3, (w64 (Int.tdiv v2 2)), (w64 (Int.tdiv v3 2))) else bif Nat.beq ((Int.tmod (w64 (i + 2)) 3).toNat * 2) 3 then (t, t1, t2, (w64 (Int.tdiv v2 2)), (w64 (Int.tdiv v3 2)), t5) else bif Nat.beq ((Int.tmod (w64 (i + 2)) 3).toNat * 2) 2 then (t, t1, (w64 (Int.tdiv v2 2)), (w64 (Int.tdiv v3 2)), t4, t5) else bif Nat.beq ((Int.tmod (w64 (i + 2)) 3).toNat * 2) 1 then (t, (w64 (Int.tdiv v2 2)), (w64 (Int.tdiv v3 2)), t3, t4, t5) else bif Nat.beq ((Int.tmod (w64 (i + 2)) 3).toNat * 2) 0 then ((w64 (Int.tdiv v2 2)), (w64 (Int.tdiv v3 2)), t2, t3, t4, t5) else (t, t1, t2, t3, t4, t5))] 0
              else
                none
            else
              none
          else
            none
        else
          none
      else
        none
    else
      none
theorem h28_g {α : Type} (F0 : T16 α) (F1 : T9 α) (F2 : T2 α) (n : Nat) : GenF (α := α) Try.prog Try.f28 S34 (h28_x F0 F1 F2 n) n (h28_b F0 F1 F2) := by intro _ _ _ _ _ _ _ _; kernel_rfl
theorem h28_good {α : Type} : ∀ n, GoodFn (α := α) Try.prog 28 (byShape S34.sh (callS S34 impl_SplitTriangle n)) := good_of Try.func28 (by kernel_rfl) (by kernel_rfl) (by kernel_rfl) eqs_ok (fun n => h28_g impl_IsTriangle impl_in impl_Point_plus n) (by delta h28_b impl_SplitTriangle; rfl) (allC h9_good (allC h50_good (allC h54_good allN))) allN

/-! loop.example/g01297/spec.SplitTriangle -/
abbrev h29_x {α : Type} (F0 : T16 α) (F1 : T9 α) (F2 : T2 α) : Nat → Ctx α := ctxS M eqs jt0 [⟨34, S14, F0⟩, ⟨51, S10, F1⟩, ⟨55, S4, F2⟩] []
def h29_b {α : Type} (F0 : T16 α) (F1 : T9 α) (F2 : T2 α) (k : Nat) (t : Int) (t1 : Int) (t2 : Int) (t3 : Int) (t4 : Int) (t5 : Int) (i : Int) (r0 : Int → Option α) (r1 : (List (Int × Int × Int × Int × Int × Int)) → Int → Option α) : Option α :=
  F0 k t t1 t2 t3 t4 t5 fun v =>
  bif (!v) then
    r0 1
  else
    F1 k i 0 2 fun v1 =>
    bif (!v1) then
      r0 2
    else
    bif (decide (0 ≤ (Int.tmod (w64 (i + 1)) 3)) && decide ((Int.tmod (w64 (i + 1)) 3) < 3)) then
      ([t, t1, t2, t3, t4, t5][((Int.tmod (w64 (i + 1)) 3).toNat * 2)]?).bind fun e_ =>
      ([t, t1, t2, t3, t4, t5][(((Int.tmod (w64 (i + 1)) 3).toNat * 2) + 1)]?).bind fun e_1 =>
      bif (decide (0 ≤ (Int.tmod (w64 (i + 2)) 3)) && decide ((Int.tmod (w64 (i + 2)) 3) < 3)) then
        ([t, t1, t2, t3, t4, t5][((Int.tmod (w64 (i + 2)) 3).toNat * 2)]?).bind fun e_2 =>
        ([t, t1, t2, t3, t4, t5][(((Int.tmod (w64 (i + 2)) 3).toNat * 2) + 1)]?).bind fun e_3 =>
        F2 k e_ e_1 e_2 e_3 1 fun v2 v3 =>
        bif (!decide ((Int.tmod v2 2) = 0)) then
          r0 5
        else
        bif (!decide ((Int.tmod v3 2) = 0)) then
          r0 5
        else
        bif (decide (0 ≤ (Int.tmod (w64 (i + 1)) 3)) && decide ((Int.tmod (w64 (i + 1)) 3) < 3)) then
          ([t, t1, t2, t3, t4, t5][((Int.tmod (w64 (i + 1)) 3).toNat * 2)]?).bind fun _ =>
          ((List.set [t, t1, t2, t3, t4, t5] ((Int.tmod (w64 (i + 1)) 3).toNat * 2) (w64 (Int.tdiv v2 2)))[(((Int.tmod (w64 (i + 1)) 3).toNat * 2) + 1)]?).bind fun _ =>
          bif (decide (0 ≤ (Int.tmod (w64 (i + 2)) 3)) && decide ((Int.tmod (w64 (i + 2)) 3) < 3)) then
            ([t, t1, t2, t3, t4, t5][((Int.tmod (w64 (i + 2)) 3).toNat * 2)]?).bind fun _ =>
            ((List.set [t, t1, t2, t3, t4, t5] ((Int.tmod (w64 (i + 2)) 3).toNat * 2) (w64 (Int.tdiv v2 2)))[(((Int.tmod (w64 (i + 2)) 3).toNat * 2) + 1)]?).bind fun _ =>
            ((List.set (List.set [t, t1, t2, t3, t4, t5] ((Int.tmod (w64 (i + 1)) 3).toNat * 2) (w64 (Int.tdiv v2 2))) (((Int.tmod (w64 (i + 1)) 3).toNat * 2) + 1) (w64 (Int.tdiv v3 2)))[0]?).bind fun e_4 =>
            ((List.set (List.set [t, t1, t2, t3, t4, t5] ((Int.tmod (w64 (i + 1)) 3).toNat * 2) (w64 (Int.tdiv v2 2))) (((Int.tmod (w64 (i + 1)) 3).toNat * 2) + 1) (w64 (Int.tdiv v3 2)))[1]?).bind fun e_5 =>
            ((List.set (List.set [t, t1, t2, t3, t4, t5] ((Int.tmod (w64 (i + 1)) 3).toNat * 2) (w64 (Int.tdiv v2 2))) (((Int.tmod (w64 (i + 1)) 3).toNat * 2) + 1) (w64 (Int.tdiv v3 2)))[2]?).bind fun e_6 =>
            ((List.set (List.set [t, t1, t2, t3, t4, t5] ((Int.tmod (w64 (i + 1)) 3).toNat * 2) (w64 (Int.tdiv v2 2))) (((Int.tmod (w64 (i + 1)) 3).toNat * 2) + 1) (w64 (Int.tdiv v3 2)))[3]?).bind fun e_7 =>
            ((List.set (List.set [t, t1, t2, t3, t4, t5] ((Int.tmod (w64 (i + 1)) 3).toNat * 2) (w64 (Int.tdiv v2 2))) (((Int.tmod (w64 (i + 1)) 3).toNat * 2) + 1) (w64 (Int.tdiv v3 2)))[4]?).bind fun e_8 =>
            ((List.set (List.set [t, t1, t2, t3, t4, t5] ((Int.tmod (w64 (i + 1)) 3).toNat * 2) (w64 (Int.tdiv v2 2))) (((Int.tmod (w64 (i + 1)) 3).toNat * 2) + 1) (w64 (Int.tdiv v3 2)))[5]?).bind fun e_9 =>
            ((List.set (List.set [t, t1, t2, t3, t4, t5] ((Int.tmod (w64 (i + 2)) 3).toNat * 2) (w64 (Int.tdiv v2 2))) (((Int.tmod (w64 (i + 2)) 3).toNat * 2) + 1) (w64 (Int.tdiv v3 2)))[0]?).bind fun e_10 =>
            ((List.set (List.set [t, t1, t2, t3, t4, t5] ((Int.tmod (w64 (i + 2)) 3).toNat * 2) (w64 (Int.tdiv v2 2))) (((Int.tmod (w64 (i + 2)) 3).toNat * 2) + 1) (w64 (Int.tdiv v3 2)))[1]?).bind fun e_11 =>
            ((List.set (List.set [t, t1, t2, t3, t4, t5] ((Int.tmod (w64 (i + 2)) 3).toNat * 2) (w64 (Int.tdiv v2 2))) (((Int.tmod (w64 (i + 2)) 3).toNat * 2) + 1) (w64 (Int.tdiv v3 2)))[2]?).bind fun e_12 =>
            ((List.set (List.set [t, t1, t2, t3, t4, t5] ((Int.tmod (w64 (i + 2)) 3).toNat * 2) (w64 (Int.tdiv v2 2))) (((Int.tmod (w64 (i + 2)) 3).toNat * 2) + 1) (w64 (Int.tdiv v3 2)))[3]?).bind fun e_13 =>
            ((List.set (List.set [t, t1, t2, t3, t4, t5] ((Int.tmod (w64 (i + 2)) 3).toNat * 2) (w64 (Int.tdiv v2 2))) (((Int.tmod (w64 (i + 2)) 3).toNat * 2) + 1) (w64 (Int.tdiv v3 2)))[4]?).bind fun e_14 =>
            ((List.set (List.set [t, t1, t2, t3, t4, t5] ((Int.tmod (w64 (i + 2)) 3).toNat * 2) (w64 (Int.tdiv v2 2))) (((Int.tmod (w64 (i + 2)) 3).toNat * 2) + 1) (w64 (Int.tdiv v3 2)))[5]?).bind fun e_15 =>
            r1 [(e_4, e_5, e_6, e_7, e_8, e_9), (e_10, e_11, e_12, e_13, e_14, e_15)] 0
          else
            none
        else
          none
      else
        none
    else
      none
theorem h29_g {α : Type} (F0 : T16 α) (F1 : T9 α) (F2 : T2 α) (n : Nat) : GenF (α := α) Try.prog Try.f29 S34 (h29_x F0 F1 F2 n) n (h29_b F0 F1 F2) := by intro _ _ _ _ _ _ _ _; kernel_rfl
theorem h29_good {α : Type} : ∀ n, GoodFn (α := α) Try.prog 29 (byShape S34.sh (callS S34 spec_SplitTriangle n)) := good_of Try.func29 (by kernel_rfl) (by kernel_rfl) (by kernel_rfl) eqs_ok (fun n => h29_g spec_l04Is spec_l01In spec_l01Plus n) (by delta h29_b spec_SplitTriangle; rfl) (allC h34_good (allC h51_good (allC h55_good allN))) allN

/-! loop.example/g01297/laws.likeInts -/
abbrev h20a_x {α : Type}  : Nat → Ctx α := ctxS M eqs jt0 [] []
def h20a_b {α : Type}  (_ : Nat) (b_ : List Int) (r0 : Bool → Option α) : Option α :=
  bif (!decide (0 = (((List.length b_) : Nat) : Int))) then
    r0 false
  else
    r0 true
theorem h20a_g {α : Type}  (n : Nat) : GenF (α := α) Try.prog Try.f20 S35 (h20a_x n) n (h20a_b) := by intro _ _; kernel_rfl
theorem h20a_good {α : Type} : ∀ n, GoodFn (α := α) Try.prog 20 (byShape S35.sh (callS S35 laws_likeInts_0N n)) := good_of Try.func20 (by kernel_rfl) (by kernel_rfl) (by kernel_rfl) eqs_ok (fun n => h20a_g n) (by delta h20a_b laws_likeInts_0N; rfl) allN allN

/-! loop.example/g01297/laws.likeInts -/
def h20b_t4 : Tpl := ⟨(.sl 0 :: (.nilsl :: (.any :: (.any :: (.any :: (.int .i64 :: (anyN 20 []))))))), [(0, .rows 0 2 (.int .i64))], [], false⟩
def h20b_p4 : PcS := loopS [.int, .rows (.int .i64)] [0]
abbrev h20b_x {α : Type} (G4 : T26 α) : Nat → Ctx α := ctxS M eqs jt0 [] [lpT 4 h20b_t4 h20b_p4 R0 G4]
def h20b_b4 {α : Type}  (_ : Nat) (i : Int) (a1 : List Int) (b0 : Int → List Int → Option α) (_ : Bool → Option α) : Option α :=
  bif decide (i < (((List.length a1) : Nat) : Int)) then
    bif (decide (0 ≤ i) && decide (i < (((List.length a1) : Nat) : Int))) then
      (a1[i.toNat]?).bind fun _ =>
      none
    else
      none
  else
    b0 i a1
theorem h20b_g4 {α : Type} (G4 : T26 α) (n : Nat) : GenL (α := α) Try.prog Try.f20 S36 (h20b_x G4 n) 4 h20b_t4 h20b_p4 n G4 (h20b_b4) := by intro _ _ _ _; kernel_rfl
def h20b_b {α : Type} (G4 : T26 α) (k : Nat) (a : List Int) (r0 : Bool → Option α) : Option α :=
  bif (!decide ((((List.length a) : Nat) : Int) = 0)) then
    r0 false
  else
    G4 k 0 a
      (fun _ _ =>
        r0 true)
      r0
theorem h20b_g {α : Type} (G4 : T26 α) (n : Nat) : GenF (α := α) Try.prog Try.f20 S36 (h20b_x G4 n) n (h20b_b G4) := by intro _ _; kernel_rfl
theorem h20b_good {α : Type} : ∀ n, GoodFn (α := α) Try.prog 20 (byShape S36.sh (callS S36 laws_likeInts_1N n)) := good_of Try.func20 (by kernel_rfl) (by kernel_rfl) (by kernel_rfl) eqs_ok (fun n => h20b_g laws_likeInts_1N_l4 n) (by delta h20b_b laws_likeInts_1N; rfl) allN (allC (loop_fine (by kernel_rfl) (fun n => by delta h20b_b4; funext _ _ _ _; exact (laws_likeInts_1N_l4.eq_2 ..).symm) (fun n => h20b_g4 laws_likeInts_1N_l4 n)) allN)

/-! loop.example/g01297/laws.likeInts -/
def h20c_t4 : Tpl := ⟨(.sl 0 :: (.sl 64 :: (.any :: (.any :: (.any :: (.int .i64 :: (anyN 20 []))))))), [(0, .rows 0 2 (.int .i64)), (64, .rows 0 2 (.int .i64))], [], false⟩
def h20c_p4 : PcS := loopS [.int, .rows (.int .i64), .rows (.int .i64)] [0]
abbrev h20c_x {α : Type} (G4 : T27 α) : Nat → Ctx α := ctxS M eqs jt0 [] [lpT 4 h20c_t4 h20c_p4 R0 G4]
def h20c_b4 {α : Type} (G4 : T27 α) (k : Nat) (i : Int) (a1 : List Int) (b_1 : List Int) (b0 : Int → List Int → List Int → Option α) (r0 : Bool → Option α) : Option α :=
  bif decide (i < (((List.length a1) : Nat) : Int)) then
    bif (decide (0 ≤ i) && decide (i < (((List.length a1) : Nat) : Int))) then
      (a1[i.toNat]?).bind fun e_ =>
      bif (decide (0 ≤ i) && decide (i < (((List.length b_1) : Nat) : Int))) then
        (b_1[i.toNat]?).bind fun e_1 =>
        bif (!decide (e_ = e_1)) then
          r0 false
        else
          G4 k (w64 (i + 1)) a1 b_1 b0 r0
      else
        none
    else
      none
  else
    b0 i a1 b_1
theorem h20c_g4 {α : Type} (G4 : T27 α) (n : Nat) : GenL (α := α) Try.prog Try.f20 S37 (h20c_x G4 n) 4 h20c_t4 h20c_p4 n G4 (h20c_b4 G4) := by intro _ _ _ _ _; kernel_rfl
def h20c_b {α : Type} (G4 : T27 α) (k : Nat) (a : List Int) (b_ : List Int) (r0 : Bool → Option α) : Option α :=
  bif (!decide ((((List.length a) : Nat) : Int) = (((List.length b_) : Nat) : Int))) then
    r0 false
  else
    G4 k 0 a b_
      (fun _ _ _ =>
        r0 true)
      r0
theorem h20c_g {α : Type} (G4 : T27 α) (n : Nat) : GenF (α := α) Try.prog Try.f20 S37 (h20c_x G4 n) n (h20c_b G4) := by intro _ _ _; kernel_rfl
theorem h20c_good {α : Type} : ∀ n, GoodFn (α := α) Try.prog 20 (byShape S37.sh (callS S37 laws_likeInts n)) := good_of Try.func20 (by kernel_rfl) (by kernel_rfl) (by kernel_rfl) eqs_ok (fun n => h20c_g laws_likeInts_l4 n) (by delta h20c_b laws_likeInts; rfl) allN (allC (loop_fine (by kernel_rfl) (fun n => by delta h20c_b4; funext _ _ _ _ _; exact (laws_likeInts_l4.eq_2 ..).symm) (fun n => h20c_g4 laws_likeInts_l4 n)) allN)

/-! loop.example/g01297/laws.points9 -/
abbrev h8a_x {α : Type}  : Nat → Ctx α := ctxS M eqs jt0 [] []
def h8a_b {α : Type}  (_ : Nat) (b_ : List (Int × Int)) (r0 : Bool → Option α) : Option α :=
  bif (!decide (0 = (((List.length b_) : Nat) : Int))) then
    r0 false
  else
    r0 true
theorem h8a_g {α : Type}  (n : Nat) : GenF (α := α) Try.prog Try.f8 S38 (h8a_x n) n (h8a_b) := by intro _ _; kernel_rfl
theorem h8a_good {α : Type} : ∀ n, GoodFn (α := α) Try.prog 8 (byShape S38.sh (callS S38 laws_points9_0N n)) := good_of Try.func8 (by kernel_rfl) (by kernel_rfl) (by kernel_rfl) eqs_ok (fun n => h8a_g n) (by delta h8a_b laws_points9_0N; rfl) allN allN

/-! loop.example/g01297/laws.points9 -/
def h8b_t4 : Tpl := ⟨(.sl 0 :: (.nilsl :: (.any :: (.any :: (.any :: (.int .i64 :: (anyN 20 []))))))), [(0, .rows 0 25 .pt)], [], false⟩
def h8b_p4 : PcS := loopS [.int, .rows .pt] [0]
abbrev h8b_x {α : Type} (G4 : T28 α) : Nat → Ctx α := ctxS M eqs jt0 [] [lpT 4 h8b_t4 h8b_p4 R0 G4]
def h8b_b4 {α : Type}  (_ : Nat) (i : Int) (a1 : List (Int × Int)) (b0 : Int → (List (Int × Int)) → Option α) (_ : Bool → Option α) : Option α :=
  bif decide (i < (((List.length a1) : Nat) : Int)) then
    bif (decide (0 ≤ i) && decide (i < (((List.length a1) : Nat) : Int))) then
      (a1[i.toNat]?).bind fun _ =>
      none
    else
      none
  else
    b0 i a1
theorem h8b_g4 {α : Type} (G4 : T28 α) (n : Nat) : GenL (α := α) Try.prog Try.f8 S39 (h8b_x G4 n) 4 h8b_t4 h8b_p4 n G4 (h8b_b4) := by intro _ _ _ _; kernel_rfl
def h8b_b {α : Type} (G4 : T28 α) (k : Nat) (a : List (Int × Int)) (r0 : Bool → Option α) : Option α :=
  bif (!decide ((((List.length a) : Nat) : Int) = 0)) then
    r0 false
  else
    G4 k 0 a
      (fun _ _ =>
        r0 true)
      r0
theorem h8b_g {α : Type} (G4 : T28 α) (n : Nat) : GenF (α := α) Try.prog Try.f8 S39 (h8b_x G4 n) n (h8b_b G4) := by intro _ _; kernel_rfl
theorem h8b_good {α : Type} : ∀ n, GoodFn (α := α) Try.prog 8 (byShape S39.sh (callS S39 laws_points9_1N n)) := good_of Try.func8 (by kernel_rfl) (by kernel_rfl) (by kernel_rfl) eqs_ok (fun n => h8b_g laws_points9_1N_l4 n) (by delta h8b_b laws_points9_1N; rfl) allN (allC (loop_fine (by kernel_rfl) (fun n => by delta h8b_b4; funext _ _ _ _; exact (laws_points9_1N_l4.eq_2 ..).symm) (fun n => h8b_g4 laws_points9_1N_l4 n)) allN)

/-! loop.example/g01297/laws.points9 -/
def h8c_t4 : Tpl := ⟨(.sl 0 :: (.sl 64 :: (.any :: (.any :: (.any :: (.int .i64 :: (anyN 20 []))))))), [(0, .rows 0 25 .pt), (64, .rows 0 25 .pt)], [], false⟩
def h8c_p4 : PcS := loopS [.int, .rows .pt, .rows .pt] [0]
abbrev h8c_x {α : Type} (G4 : T29 α) : Nat → Ctx α := ctxS M eqs jt0 [] [lpT 4 h8c_t4 h8c_p4 R0 G4]
def h8c_b4 {α : Type} (G4 : T29 α) (k : Nat) (i : Int) (a1 : List (Int × Int)) (b_1 : List (Int × Int)) (b0 : Int → (List (Int × Int)) → (List (Int × Int)) → Option α) (r0 : Bool → Option α) : Option α :=
  bif decide (i < (((List.length a1) : Nat) : Int)) then
    bif (decide (0 ≤ i) && decide (i < (((List.length a1) : Nat) : Int))) then
      (a1[i.toNat]?).bind fun e_ =>
      bif (decide (0 ≤ i) && decide (i < (((List.length b_1) : Nat) : Int))) then
        (b_1[i.toNat]?).bind fun e_1 =>
        bif (!(decide (e_.1 = e_1.1) && decide (e_.2 = e_1.2))) then
          r0 false
        else
          G4 k (w64 (i + 1)) a1 b_1 b0 r0
      else
        none
    else
      none
  else
    b0 i a1 b_1
theorem h8c_g4 {α : Type} (G4 : T29 α) (n : Nat) : GenL (α := α) Try.prog Try.f8 S40 (h8c_x G4 n) 4 h8c_t4 h8c_p4 n G4 (h8c_b4 G4) := by intro _ _ _ _ _; kernel_rfl
def h8c_b {α : Type} (G4 : T29 α) (k : Nat) (a : List (Int × Int)) (b_ : List (Int × Int)) (r0 : Bool → Option α) : Option α :=
  bif (!decide ((((List.length a) : Nat) : Int) = (((List.length b_) : Nat) : Int))) then
    r0 false
  else
    G4 k 0 a b_
      (fun _ _ _ =>
        r0 true)
      r0
theorem h8c_g {α : Type} (G4 : T29 α) (n : Nat) : GenF (α := α) Try.prog Try.f8 S40 (h8c_x G4 n) n (h8c_b G4) := by intro _ _ _; kernel_rfl
theorem h8c_good {α : Type} : ∀ n, GoodFn (α := α) Try.prog 8 (byShape S40.sh (callS S40 laws_points9 n)) := good_of Try.func8 (by kernel_rfl) (by kernel_rfl) (by kernel_rfl) eqs_ok (fun n => h8c_g laws_points9_l4 n) (by delta h8c_b laws_points9; rfl) allN (allC (loop_fine (by kernel_rfl) (fun n => by delta h8c_b4; funext _ _ _ _ _; exact (laws_points9_l4.eq_2 ..).symm) (fun n => h8c_g4 laws_points9_l4 n)) allN)

end Go.Proofs.Ytkfcnpnedibdlaa
