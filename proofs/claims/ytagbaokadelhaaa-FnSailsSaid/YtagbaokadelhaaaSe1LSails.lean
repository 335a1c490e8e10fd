/- The program's functions hold to their readings without memory: printed by a program of ours. -/
import Derived.Test.YtagbaokadelhaaaSeLSails
namespace Go.Proofs.Ytagbaokadelhaaa
open Go Go.Ev Go.Sh Go.Proofs

/-! loop.example/g01297/laws.big -/
abbrev h4_x {α : Type}  : Nat → Ctx α := ctxS M eqs jt0 [] []
def h4_b {α : Type}  (_ : Nat) (code : List Int) (r0 : Bool → Option α) : Option α :=
  r0 (decide (4096 < (((List.length code) : Nat) : Int)))
theorem h4_g {α : Type}  (n : Nat) : GenF (α := α) Try.prog Try.f4 S0 (h4_x n) n (h4_b) := by intro _ _; kernel_rfl
theorem h4_good {α : Type} : ∀ n, GoodFn (α := α) Try.prog 4 (byShape S0.sh (callS S0 laws_big n)) := good_of Try.func4 (by kernel_rfl) (by kernel_rfl) (by kernel_rfl) eqs_ok (fun n => h4_g n) (by delta h4_b laws_big; rfl) allN allN

/-! loop.example/g01297/spec.l01From -/
def h33_t3 : Tpl := ⟨(.sl 0 :: (.any :: (.any :: (.ptr 704 0 0 :: (.int .i64 :: (anyN 33 [])))))), [(0, .rows 0 5 (.int .u8)), (704, .mix 2 74 [.sl 0, .int .i64, .int .u64])], []⟩
def h33_p3 : PcS := loopS [.int, .rows (.int .u8), .int, .int] [0]
abbrev h33_x {α : Type} (G3 : T0 α) : Nat → Ctx α := ctxS M eqs jt0 [] [lpT 3 h33_t3 h33_p3 R1 G3]
def h33_b3 {α : Type} (G3 : T0 α) (k : Nat) (i : Int) (code1 : List Int) (s : Int) (s1 : Int) (b0 : Int → List Int → Int → Int → Option α) (r0 : Int → Int → Option α) : Option α :=
  bif decide (i < (((List.length code1) : Nat) : Int)) then
    bif decide (i < 4096) then
      bif (decide (0 ≤ i) && decide (i < (((List.length code1) : Nat) : Int))) then
        (code1[i.toNat]?).bind fun e_ =>
        G3 k (w64 (i + 1)) code1 s (IntKind.wrap .u64 ((IntKind.wrap .u64 ((IntKind.wrap .u64 (s1 * 1099511628211)) + (IntKind.wrap .u64 e_))) + 107)) b0 r0
      else
        none
    else
      b0 i code1 s s1
  else
    b0 i code1 s s1
theorem h33_g3 {α : Type} (G3 : T0 α) (n : Nat) : GenL (α := α) Try.prog Try.f33 S1 (h33_x G3 n) 3 h33_t3 h33_p3 n G3 (h33_b3 G3) := by intro _ _ _ _ _ _; kernel_rfl
def h33_b {α : Type} (G3 : T0 α) (k : Nat) (code : List Int) (r0 : Int → Int → Option α) : Option α :=
  G3 k 0 code 0 (IntKind.wrap .u64 (12971 + (IntKind.wrap .u64 (((List.length code) : Nat) : Int))))
    (fun _ _ s2 s3 =>
      r0 s2 s3)
    r0
theorem h33_g {α : Type} (G3 : T0 α) (n : Nat) : GenF (α := α) Try.prog Try.f33 S1 (h33_x G3 n) n (h33_b G3) := by intro _ _; kernel_rfl
theorem h33_good {α : Type} : ∀ n, GoodFn (α := α) Try.prog 33 (byShape S1.sh (callS S1 spec_l01From n)) := good_of Try.func33 (by kernel_rfl) (by kernel_rfl) (by kernel_rfl) eqs_ok (fun n => h33_g spec_l01From_l3 n) (by delta h33_b spec_l01From; rfl) allN (allC (loop_fine (by kernel_rfl) (fun n => by delta h33_b3; funext _ _ _ _ _ _; exact (spec_l01From_l3.eq_2 ..).symm) (fun n => h33_g3 spec_l01From_l3 n)) allN)

/-! loop.example/g01297/spec.l01Next -/
abbrev h55_x {α : Type}  : Nat → Ctx α := ctxS M eqs jt0 [] []
def h55_b {α : Type}  (_ : Nat) (s : List Int) (s1 : Int) (s2 : Int) (n_ : Int) (r0 : Int → Int → Int → Option α) : Option α :=
  bif decide (n_ < 1) then
    r0 0 s1 s2
  else
  bif decide (s1 < (((List.length s) : Nat) : Int)) then
    bif (decide (0 ≤ s1) && decide (s1 < (((List.length s) : Nat) : Int))) then
      (s[s1.toNat]?).bind fun e_ =>
      bif decide (n_ = 0) then
        none
      else
        r0 (Int.tmod (w64 ((w64 (IntKind.wrap .u64 ((BitVec.ofInt 64 (Int.fdiv (IntKind.wrap .u64 ((IntKind.wrap .u64 (s2 * 6364136223846793005)) + 1442695040888963407)) (2 ^ 31)) &&& BitVec.ofInt 64 1073741823).toNat))) + (w64 e_))) n_) (w64 (s1 + 1)) (IntKind.wrap .u64 ((IntKind.wrap .u64 (s2 * 6364136223846793005)) + 1442695040888963407))
    else
      none
  else
  bif decide (n_ = 0) then
    none
  else
    r0 (Int.tmod (w64 (IntKind.wrap .u64 ((BitVec.ofInt 64 (Int.fdiv (IntKind.wrap .u64 ((IntKind.wrap .u64 (s2 * 6364136223846793005)) + 1442695040888963407)) (2 ^ 31)) &&& BitVec.ofInt 64 1073741823).toNat))) n_) s1 (IntKind.wrap .u64 ((IntKind.wrap .u64 (s2 * 6364136223846793005)) + 1442695040888963407))
theorem h55_g {α : Type}  (n : Nat) : GenF (α := α) Try.prog Try.f55 S2 (h55_x n) n (h55_b) := by intro _ _ _ _ _; kernel_rfl
theorem h55_good {α : Type} : ∀ n, GoodFn (α := α) Try.prog 55 (byShape S2.sh (callS S2 spec_l01Next n)) := good_of Try.func55 (by kernel_rfl) (by kernel_rfl) (by kernel_rfl) eqs_ok (fun n => h55_g n) (by delta h55_b spec_l01Next; rfl) allN allN

/-! loop.example/g01297/spec.l01Pick -/
abbrev h54_x {α : Type} (F0 : T1 α) : Nat → Ctx α := ctxS M eqs jt0 [⟨55, S2, F0⟩] []
def h54_b {α : Type} (F0 : T1 α) (k : Nat) (s : List Int) (s1 : Int) (s2 : Int) (list : List Int) (r0 : Int → Int → Int → Option α) : Option α :=
  F0 k s s1 s2 (((List.length list) : Nat) : Int) fun v v1 v2 =>
  bif (decide (0 ≤ v) && decide (v < (((List.length list) : Nat) : Int))) then
    (list[v.toNat]?).bind fun e_ =>
    r0 e_ v1 v2
  else
    none
theorem h54_g {α : Type} (F0 : T1 α) (n : Nat) : GenF (α := α) Try.prog Try.f54 S3 (h54_x F0 n) n (h54_b F0) := by intro _ _ _ _ _; kernel_rfl
theorem h54_good {α : Type} : ∀ n, GoodFn (α := α) Try.prog 54 (byShape S3.sh (callS S3 spec_l01Pick n)) := good_of Try.func54 (by kernel_rfl) (by kernel_rfl) (by kernel_rfl) eqs_ok (fun n => h54_g spec_l01Next n) (by delta h54_b spec_l01Pick; rfl) (allC h55_good allN) allN

/-! loop.example/g01297/spec.l01DrawPoint -/
abbrev h66_x {α : Type} (F0 : T1 α) : Nat → Ctx α := ctxS M eqs jt0 [⟨55, S2, F0⟩] []
def h66_b {α : Type} (F0 : T1 α) (k : Nat) (s : List Int) (s1 : Int) (s2 : Int) (most : Int) (r0 : Int → Int → Int → Int → Option α) : Option α :=
  F0 k s s1 s2 (w64 ((w64 (2 * most)) + 1)) fun v v1 v2 =>
  F0 k s v1 v2 (w64 ((w64 (2 * most)) + 1)) fun v3 v4 v5 =>
  r0 (w64 (v - most)) (w64 (v3 - most)) v4 v5
theorem h66_g {α : Type} (F0 : T1 α) (n : Nat) : GenF (α := α) Try.prog Try.f66 S4 (h66_x F0 n) n (h66_b F0) := by intro _ _ _ _ _; kernel_rfl
theorem h66_good {α : Type} : ∀ n, GoodFn (α := α) Try.prog 66 (byShape S4.sh (callS S4 spec_l01DrawPoint n)) := good_of Try.func66 (by kernel_rfl) (by kernel_rfl) (by kernel_rfl) eqs_ok (fun n => h66_g spec_l01Next n) (by delta h66_b spec_l01DrawPoint; rfl) (allC h55_good allN) allN

/-! loop.example/g01297/spec.l01Gcd -/
def h61_t1 : Tpl := ⟨(.int .i64 :: (.int .i64 :: (anyN 15 []))), [], []⟩
def h61_p1 : PcS := loopS [.int, .int] [0]
abbrev h61_x {α : Type} (G1 : T2 α) : Nat → Ctx α := ctxS M eqs jt0 [] [lpT 1 h61_t1 h61_p1 R4 G1]
def h61_b1 {α : Type} (G1 : T2 α) (k : Nat) (a1 : Int) (b_1 : Int) (b0 : Int → Int → Option α) (r0 : Int → Option α) : Option α :=
  bif (!decide (b_1 = 0)) then
    bif decide (b_1 = 0) then
      none
    else
      G1 k b_1 (Int.tmod a1 b_1) b0 r0
  else
    b0 a1 b_1
theorem h61_g1 {α : Type} (G1 : T2 α) (n : Nat) : GenL (α := α) Try.prog Try.f61 S5 (h61_x G1 n) 1 h61_t1 h61_p1 n G1 (h61_b1 G1) := by intro _ _ _ _; kernel_rfl
def h61_b {α : Type} (G1 : T2 α) (k : Nat) (a : Int) (b_ : Int) (r0 : Int → Option α) : Option α :=
  G1 k a b_
    (fun a2 _ =>
      r0 (max a2 (w64 (0 - a2))))
    r0
theorem h61_g {α : Type} (G1 : T2 α) (n : Nat) : GenF (α := α) Try.prog Try.f61 S5 (h61_x G1 n) n (h61_b G1) := by intro _ _ _; kernel_rfl
theorem h61_good {α : Type} : ∀ n, GoodFn (α := α) Try.prog 61 (byShape S5.sh (callS S5 spec_l01Gcd n)) := good_of Try.func61 (by kernel_rfl) (by kernel_rfl) (by kernel_rfl) eqs_ok (fun n => h61_g spec_l01Gcd_l1 n) (by delta h61_b spec_l01Gcd; rfl) allN (allC (loop_fine (by kernel_rfl) (fun n => by delta h61_b1; funext _ _ _ _; exact (spec_l01Gcd_l1.eq_2 ..).symm) (fun n => h61_g1 spec_l01Gcd_l1 n)) allN)

/-! loop.example/g01297/spec.l01Part -/
abbrev h79_x {α : Type} (F0 : T3 α) : Nat → Ctx α := ctxS M eqs jt0 [⟨61, S5, F0⟩] []
def h79_b {α : Type} (F0 : T3 α) (k : Nat) (a : Int) (a1 : Int) (r0 : Int → Int → Option α) : Option α :=
  F0 k a a1 fun v =>
  bif decide (v = 0) then
    none
  else
  bif decide (v = 0) then
    none
  else
    r0 (w64 (Int.tdiv a v)) (w64 (Int.tdiv a1 v))
theorem h79_g {α : Type} (F0 : T3 α) (n : Nat) : GenF (α := α) Try.prog Try.f79 S6 (h79_x F0 n) n (h79_b F0) := by intro _ _ _; kernel_rfl
theorem h79_good {α : Type} : ∀ n, GoodFn (α := α) Try.prog 79 (byShape S6.sh (callS S6 spec_l01Part n)) := good_of Try.func79 (by kernel_rfl) (by kernel_rfl) (by kernel_rfl) eqs_ok (fun n => h79_g spec_l01Gcd n) (by delta h79_b spec_l01Part; rfl) (allC h61_good allN) allN

/-! loop.example/g01297/spec.l01DrawPrimitive -/
abbrev h70_x {α : Type} (F0 : T4 α) (F1 : T5 α) : Nat → Ctx α := ctxS M eqs jt0 [⟨66, S4, F0⟩, ⟨79, S6, F1⟩] []
def h70_b {α : Type} (F0 : T4 α) (F1 : T5 α) (k : Nat) (s : List Int) (s1 : Int) (s2 : Int) (most : Int) (r0 : Int → Int → Int → Int → Option α) : Option α :=
  F0 k s s1 s2 most fun v v1 v2 v3 =>
  bif (decide (v = 0) && decide (v1 = 0)) then
    r0 1 0 v2 v3
  else
    F1 k v v1 fun v4 v5 =>
    r0 v4 v5 v2 v3
theorem h70_g {α : Type} (F0 : T4 α) (F1 : T5 α) (n : Nat) : GenF (α := α) Try.prog Try.f70 S4 (h70_x F0 F1 n) n (h70_b F0 F1) := by intro _ _ _ _ _; kernel_rfl
theorem h70_good {α : Type} : ∀ n, GoodFn (α := α) Try.prog 70 (byShape S4.sh (callS S4 spec_l01DrawPrimitive n)) := good_of Try.func70 (by kernel_rfl) (by kernel_rfl) (by kernel_rfl) eqs_ok (fun n => h70_g spec_l01DrawPoint spec_l01Part n) (by delta h70_b spec_l01DrawPrimitive; rfl) (allC h66_good (allC h79_good allN)) allN

/-! loop.example/g01297/spec.l01Det -/
abbrev h51_x {α : Type}  : Nat → Ctx α := ctxS M eqs jt0 [] []
def h51_b {α : Type}  (_ : Nat) (a : Int) (a1 : Int) (b_ : Int) (b_1 : Int) (r0 : Int → Option α) : Option α :=
  r0 (w64 ((w64 (a * b_1)) - (w64 (a1 * b_))))
theorem h51_g {α : Type}  (n : Nat) : GenF (α := α) Try.prog Try.f51 S7 (h51_x n) n (h51_b) := by intro _ _ _ _ _; kernel_rfl
theorem h51_good {α : Type} : ∀ n, GoodFn (α := α) Try.prog 51 (byShape S7.sh (callS S7 spec_l01Det n)) := good_of Try.func51 (by kernel_rfl) (by kernel_rfl) (by kernel_rfl) eqs_ok (fun n => h51_g n) (by delta h51_b spec_l01Det; rfl) allN allN

/-! loop.example/g01297/spec.l03DrawOf -/
abbrev h53_x {α : Type} (F0 : T4 α) (F1 : T6 α) (F2 : T1 α) : Nat → Ctx α := ctxS M eqs jt0 [⟨70, S4, F0⟩, ⟨51, S7, F1⟩, ⟨55, S2, F2⟩] []
def h53_b {α : Type} (F0 : T4 α) (F1 : T6 α) (F2 : T1 α) (k : Nat) (s : List Int) (s1 : Int) (s2 : Int) (most : Int) (r0 : Int → Int → Int → Int → Int → Int → Option α) : Option α :=
  F0 k s s1 s2 most fun v v1 v2 v3 =>
  F0 k s v2 v3 most fun v4 v5 v6 v7 =>
  F1 k v v1 v4 v5 fun v8 =>
  bif decide (v8 = 0) then
    F2 k s v6 v7 most fun v9 v10 v11 =>
    r0 1 0 1 (w64 (1 + v9)) v10 v11
  else
  bif decide (v8 < 0) then
    r0 v4 v5 v v1 v6 v7
  else
    r0 v v1 v4 v5 v6 v7
theorem h53_g {α : Type} (F0 : T4 α) (F1 : T6 α) (F2 : T1 α) (n : Nat) : GenF (α := α) Try.prog Try.f53 S8 (h53_x F0 F1 F2 n) n (h53_b F0 F1 F2) := by intro _ _ _ _ _; kernel_rfl
theorem h53_good {α : Type} : ∀ n, GoodFn (α := α) Try.prog 53 (byShape S8.sh (callS S8 spec_l03DrawOf n)) := good_of Try.func53 (by kernel_rfl) (by kernel_rfl) (by kernel_rfl) eqs_ok (fun n => h53_g spec_l01DrawPrimitive spec_l01Det spec_l01Next n) (by delta h53_b spec_l03DrawOf; rfl) (allC h70_good (allC h51_good (allC h55_good allN))) allN

/-! loop.example/g01297/spec.l01Plus -/
abbrev h57_x {α : Type}  : Nat → Ctx α := ctxS M eqs jt0 [] []
def h57_b {α : Type}  (_ : Nat) (a : Int) (a1 : Int) (b_ : Int) (b_1 : Int) (k_ : Int) (r0 : Int → Int → Option α) : Option α :=
  r0 (w64 (a + (w64 (k_ * b_)))) (w64 (a1 + (w64 (k_ * b_1))))
theorem h57_g {α : Type}  (n : Nat) : GenF (α := α) Try.prog Try.f57 S9 (h57_x n) n (h57_b) := by intro _ _ _ _ _ _; kernel_rfl
theorem h57_good {α : Type} : ∀ n, GoodFn (α := α) Try.prog 57 (byShape S9.sh (callS S9 spec_l01Plus n)) := good_of Try.func57 (by kernel_rfl) (by kernel_rfl) (by kernel_rfl) eqs_ok (fun n => h57_g n) (by delta h57_b spec_l01Plus; rfl) allN allN

/-! loop.example/g01297/spec.l01Bad -/
abbrev h56_x {α : Type} (F0 : T1 α) (F1 : T7 α) : Nat → Ctx α := ctxS M eqs jt0 [⟨55, S2, F0⟩, ⟨54, S3, F1⟩] []
def h56_b {α : Type} (F0 : T1 α) (F1 : T7 α) (k : Nat) (s : List Int) (s1 : Int) (s2 : Int) (a : Int) (a1 : Int) (r0 : Int → Int → Int → Int → Option α) : Option α :=
  F0 k s s1 s2 40 fun v v1 v2 =>
  bif decide (v = 0) then
    F0 k s v1 v2 2 fun v3 v4 v5 =>
    F1 k s v4 v5 [1000001, (-1000001), 1099511627776] fun v6 v7 v8 =>
    bif (decide (0 ≤ v3) && decide (v3 < 2)) then
      ([a, a1][v3.toNat]?).bind fun _ =>
      ((List.set [a, a1] v3.toNat v6)[0]?).bind fun e_ =>
      ((List.set [a, a1] v3.toNat v6)[1]?).bind fun e_1 =>
      r0 e_ e_1 v7 v8
    else
      none
  else
    r0 a a1 v1 v2
theorem h56_g {α : Type} (F0 : T1 α) (F1 : T7 α) (n : Nat) : GenF (α := α) Try.prog Try.f56 S10 (h56_x F0 F1 n) n (h56_b F0 F1) := by intro _ _ _ _ _ _; kernel_rfl
theorem h56_good {α : Type} : ∀ n, GoodFn (α := α) Try.prog 56 (byShape S10.sh (callS S10 spec_l01Bad n)) := good_of Try.func56 (by kernel_rfl) (by kernel_rfl) (by kernel_rfl) eqs_ok (fun n => h56_g spec_l01Next spec_l01Pick n) (by delta h56_b spec_l01Bad; rfl) (allC h55_good (allC h54_good allN)) allN

/-! loop.example/g01297/spec.l03Draw -/
abbrev h32_x {α : Type} (F0 : T7 α) (F1 : T8 α) (F2 : T1 α) (F3 : T9 α) (F4 : T10 α) : Nat → Ctx α := ctxS M eqs jt0 [⟨54, S3, F0⟩, ⟨53, S8, F1⟩, ⟨55, S2, F2⟩, ⟨57, S9, F3⟩, ⟨56, S10, F4⟩] []
def h32_b {α : Type} (F0 : T7 α) (F1 : T8 α) (F2 : T1 α) (F3 : T9 α) (F4 : T10 α) (k : Nat) (s : List Int) (s1 : Int) (s2 : Int) (r0 : Int → Int → Int → Int → Int → Int → Option α) : Option α :=
  F0 k s s1 s2 [3, 6, 12, 12, 100, 1000, 1000000] fun v v1 v2 =>
  F1 k s v1 v2 v fun v3 v4 v5 v6 v7 v8 =>
  F2 k s v7 v8 30 fun v9 v10 v11 =>
  bif decide (v9 = 0) then
    r0 v5 v6 v3 v4 v10 v11
  else
  bif decide (v9 = 1) then
    F3 k v3 v4 v3 v4 1 fun v12 v13 =>
    F4 k s v10 v11 v12 v13 fun v14 v15 v16 v17 =>
    r0 v14 v15 v5 v6 v16 v17
  else
    F4 k s v10 v11 v3 v4 fun v18 v19 v20 v21 =>
    r0 v18 v19 v5 v6 v20 v21
theorem h32_g {α : Type} (F0 : T7 α) (F1 : T8 α) (F2 : T1 α) (F3 : T9 α) (F4 : T10 α) (n : Nat) : GenF (α := α) Try.prog Try.f32 S11 (h32_x F0 F1 F2 F3 F4 n) n (h32_b F0 F1 F2 F3 F4) := by intro _ _ _ _; kernel_rfl
theorem h32_good {α : Type} : ∀ n, GoodFn (α := α) Try.prog 32 (byShape S11.sh (callS S11 spec_l03Draw n)) := good_of Try.func32 (by kernel_rfl) (by kernel_rfl) (by kernel_rfl) eqs_ok (fun n => h32_g spec_l01Pick spec_l03DrawOf spec_l01Next spec_l01Plus spec_l01Bad n) (by delta h32_b spec_l03Draw; rfl) (allC h54_good (allC h53_good (allC h55_good (allC h57_good (allC h56_good allN))))) allN

/-! loop.example/g01297/spec.DrawSailPoints -/
abbrev h5_x {α : Type} (F0 : T11 α) (F1 : T12 α) : Nat → Ctx α := ctxS M eqs jt0 [⟨33, S1, F0⟩, ⟨32, S11, F1⟩] []
def h5_b {α : Type} (F0 : T11 α) (F1 : T12 α) (k : Nat) (code : List Int) (r0 : Int → Int → Int → Int → Option α) : Option α :=
  F0 k code fun v v1 =>
  F1 k code v v1 fun v2 v3 v4 v5 _ _ =>
  r0 v2 v3 v4 v5
theorem h5_g {α : Type} (F0 : T11 α) (F1 : T12 α) (n : Nat) : GenF (α := α) Try.prog Try.f5 S12 (h5_x F0 F1 n) n (h5_b F0 F1) := by intro _ _; kernel_rfl
theorem h5_good {α : Type} : ∀ n, GoodFn (α := α) Try.prog 5 (byShape S12.sh (callS S12 spec_DrawSailPoints n)) := good_of Try.func5 (by kernel_rfl) (by kernel_rfl) (by kernel_rfl) eqs_ok (fun n => h5_g spec_l01From spec_l03Draw n) (by delta h5_b spec_DrawSailPoints; rfl) (allC h33_good (allC h32_good allN)) allN

/-! loop.example/g01297/impl.in -/
abbrev h74_x {α : Type}  : Nat → Ctx α := ctxS M eqs jt0 [] []
def h74_b {α : Type}  (_ : Nat) (n_ : Int) (low : Int) (high : Int) (r0 : Bool → Option α) : Option α :=
  bif decide (low ≤ n_) then
    r0 (decide (n_ ≤ high))
  else
    r0 false
theorem h74_g {α : Type}  (n : Nat) : GenF (α := α) Try.prog Try.f74 S13 (h74_x n) n (h74_b) := by intro _ _ _ _; kernel_rfl
theorem h74_good {α : Type} : ∀ n, GoodFn (α := α) Try.prog 74 (byShape S13.sh (callS S13 impl_in n)) := good_of Try.func74 (by kernel_rfl) (by kernel_rfl) (by kernel_rfl) eqs_ok (fun n => h74_g n) (by delta h74_b impl_in; rfl) allN allN

/-! loop.example/g01297/impl.isCoord -/
abbrev h63_x {α : Type} (F0 : T13 α) : Nat → Ctx α := ctxS M eqs jt0 [⟨74, S13, F0⟩] []
def h63_b {α : Type} (F0 : T13 α) (k : Nat) (n_ : Int) (r0 : Bool → Option α) : Option α :=
  F0 k n_ (-1000000) 1000000 fun v =>
  r0 v
theorem h63_g {α : Type} (F0 : T13 α) (n : Nat) : GenF (α := α) Try.prog Try.f63 S14 (h63_x F0 n) n (h63_b F0) := by intro _ _; kernel_rfl
theorem h63_good {α : Type} : ∀ n, GoodFn (α := α) Try.prog 63 (byShape S14.sh (callS S14 impl_isCoord n)) := good_of Try.func63 (by kernel_rfl) (by kernel_rfl) (by kernel_rfl) eqs_ok (fun n => h63_g impl_in n) (by delta h63_b impl_isCoord; rfl) (allC h74_good allN) allN

/-! loop.example/g01297/impl.IsPoint -/
abbrev h43_x {α : Type} (F0 : T14 α) : Nat → Ctx α := ctxS M eqs jt0 [⟨63, S14, F0⟩] []
def h43_b {α : Type} (F0 : T14 α) (k : Nat) (a : Int) (a1 : Int) (r0 : Bool → Option α) : Option α :=
  F0 k a fun v =>
  bif v then
    F0 k a1 fun v1 =>
    r0 v1
  else
    r0 false
theorem h43_g {α : Type} (F0 : T14 α) (n : Nat) : GenF (α := α) Try.prog Try.f43 S15 (h43_x F0 n) n (h43_b F0) := by intro _ _ _; kernel_rfl
theorem h43_good {α : Type} : ∀ n, GoodFn (α := α) Try.prog 43 (byShape S15.sh (callS S15 impl_IsPoint n)) := good_of Try.func43 (by kernel_rfl) (by kernel_rfl) (by kernel_rfl) eqs_ok (fun n => h43_g impl_isCoord n) (by delta h43_b impl_IsPoint; rfl) (allC h63_good allN) allN

/-! loop.example/g01297/impl.points$1 -/
abbrev h60_x {α : Type} (F0 : T15 α) : Nat → Ctx α := ctxS M eqs jt0 [⟨43, S15, F0⟩] []
def h60_b {α : Type} (F0 : T15 α) (k : Nat) (a : Int) (a1 : Int) (r0 : Bool → Option α) : Option α :=
  F0 k a a1 fun v =>
  r0 (!v)
theorem h60_g {α : Type} (F0 : T15 α) (n : Nat) : GenF (α := α) Try.prog Try.f60 S15 (h60_x F0 n) n (h60_b F0) := by intro _ _ _; kernel_rfl
theorem h60_good {α : Type} : ∀ n, GoodFn (α := α) Try.prog 60 (byShape S15.sh (callS S15 impl_points_1 n)) := good_of Try.func60 (by kernel_rfl) (by kernel_rfl) (by kernel_rfl) eqs_ok (fun n => h60_g impl_IsPoint n) (by delta h60_b impl_points_1; rfl) (allC h43_good allN) allN

/-! slices.IndexFunc[[]loop.example/g01297/impl.Point,loop.example/g01297/impl.Point] -/
def h73_t2 : Tpl := ⟨(.sl 0 :: (.fn 60 [] :: (anyN 5 (.int .i64 :: (.int .i64 :: (anyN 10 [])))))), [(0, .rows 0 25 .pt)], []⟩
def h73_p2 : PcS := loopS [.int, .int, .rows .pt] [0]
abbrev h73_x {α : Type} (F0 : T15 α) (G2 : T16 α) : Nat → Ctx α := ctxS M eqs jt0 [⟨60, S15, F0⟩] [lpT 2 h73_t2 h73_p2 R4 G2]
def h73_b2 {α : Type} (F0 : T15 α) (G2 : T16 α) (k : Nat) (x : Int) (x1 : Int) (s1 : List (Int × Int)) (b0 : Int → Int → (List (Int × Int)) → Option α) (r0 : Int → Option α) : Option α :=
  bif decide (x1 < x) then
    bif (decide (0 ≤ x1) && decide (x1 < (((List.length s1) : Nat) : Int))) then
      (s1[x1.toNat]?).bind fun e_ =>
      F0 k e_.1 e_.2 fun v =>
      bif v then
        r0 x1
      else
        G2 k x (w64 (x1 + 1)) s1 b0 r0
    else
      none
  else
    b0 x x1 s1
theorem h73_g2 {α : Type} (F0 : T15 α) (G2 : T16 α) (n : Nat) : GenL (α := α) Try.prog Try.f73 S16 (h73_x F0 G2 n) 2 h73_t2 h73_p2 n G2 (h73_b2 F0 G2) := by intro _ _ _ _ _; kernel_rfl
def h73_b {α : Type} (G2 : T16 α) (k : Nat) (s : List (Int × Int)) (r0 : Int → Option α) : Option α :=
  G2 k (((List.length s) : Nat) : Int) 0 s
    (fun _ _ _ =>
      r0 (-1))
    r0
theorem h73_g {α : Type} (F0 : T15 α) (G2 : T16 α) (n : Nat) : GenF (α := α) Try.prog Try.f73 S16 (h73_x F0 G2 n) n (h73_b G2) := by intro _ _; kernel_rfl
theorem h73_good {α : Type} : ∀ n, GoodFn (α := α) Try.prog 73 (byShape S16.sh (callS S16 slices_IndexFunc_impl_Point_impl_Point_1F_impl_points_1 n)) := good_of Try.func73 (by kernel_rfl) (by kernel_rfl) (by kernel_rfl) eqs_ok (fun n => h73_g impl_points_1 slices_IndexFunc_impl_Point_impl_Point_1F_impl_points_1_l2 n) (by delta h73_b slices_IndexFunc_impl_Point_impl_Point_1F_impl_points_1; rfl) (allC h60_good allN) (allC (loop_fine (by kernel_rfl) (fun n => by delta h73_b2; funext _ _ _ _ _; exact (slices_IndexFunc_impl_Point_impl_Point_1F_impl_points_1_l2.eq_2 ..).symm) (fun n => h73_g2 impl_points_1 slices_IndexFunc_impl_Point_impl_Point_1F_impl_points_1_l2 n)) allN)

/-! slices.ContainsFunc[[]loop.example/g01297/impl.Point,loop.example/g01297/impl.Point] -/
abbrev h59_x {α : Type} (F0 : T17 α) : Nat → Ctx α := ctxS M eqs jt0 [⟨73, S16, F0⟩] []
def h59_b {α : Type} (F0 : T17 α) (k : Nat) (s : List (Int × Int)) (r0 : Bool → Option α) : Option α :=
  F0 k s fun v =>
  r0 (decide (0 ≤ v))
theorem h59_g {α : Type} (F0 : T17 α) (n : Nat) : GenF (α := α) Try.prog Try.f59 S17 (h59_x F0 n) n (h59_b F0) := by intro _ _; kernel_rfl
theorem h59_good {α : Type} : ∀ n, GoodFn (α := α) Try.prog 59 (byShape S17.sh (callS S17 slices_ContainsFunc_impl_Point_impl_Point_1F_impl_points_1 n)) := good_of Try.func59 (by kernel_rfl) (by kernel_rfl) (by kernel_rfl) eqs_ok (fun n => h59_g slices_IndexFunc_impl_Point_impl_Point_1F_impl_points_1 n) (by delta h59_b slices_ContainsFunc_impl_Point_impl_Point_1F_impl_points_1; rfl) (allC h73_good allN) allN

/-! loop.example/g01297/impl.points -/
abbrev h36_x {α : Type} (F0 : T18 α) : Nat → Ctx α := ctxS M eqs jt0 [⟨59, S17, F0⟩] []
def h36_b {α : Type} (F0 : T18 α) (k : Nat) (list : List (Int × Int)) (r0 : Bool → Option α) : Option α :=
  F0 k list fun v =>
  r0 (!v)
theorem h36_g {α : Type} (F0 : T18 α) (n : Nat) : GenF (α := α) Try.prog Try.f36 S18 (h36_x F0 n) n (h36_b F0) := by intro _ _; kernel_rfl
theorem h36_good {α : Type} : ∀ n, GoodFn (α := α) Try.prog 36 (byShape S18.sh (callS S18 impl_points n)) := good_of Try.func36 (by kernel_rfl) (by kernel_rfl) (by kernel_rfl) eqs_ok (fun n => h36_g slices_ContainsFunc_impl_Point_impl_Point_1F_impl_points_1 n) (by delta h36_b impl_points; rfl) (allC h59_good allN) allN

/-! loop.example/g01297/impl.size -/
abbrev h75_x {α : Type}  : Nat → Ctx α := ctxS M eqs jt0 [] []
def h75_b {α : Type}  (_ : Nat) (n_ : Int) (r0 : Int → Option α) : Option α :=
  r0 (max n_ (w64 (0 - n_)))
theorem h75_g {α : Type}  (n : Nat) : GenF (α := α) Try.prog Try.f75 S19 (h75_x n) n (h75_b) := by intro _ _; kernel_rfl
theorem h75_good {α : Type} : ∀ n, GoodFn (α := α) Try.prog 75 (byShape S19.sh (callS S19 impl_size n)) := good_of Try.func75 (by kernel_rfl) (by kernel_rfl) (by kernel_rfl) eqs_ok (fun n => h75_g n) (by delta h75_b impl_size; rfl) allN allN

/-! loop.example/g01297/impl.gcd -/
def h65_t1 : Tpl := ⟨(.int .i64 :: (.int .i64 :: (anyN 11 []))), [], []⟩
def h65_p1 : PcS := loopS [.int, .int] [0]
abbrev h65_x {α : Type} (F0 : T19 α) (G1 : T2 α) : Nat → Ctx α := ctxS M eqs jt0 [⟨75, S19, F0⟩] [lpT 1 h65_t1 h65_p1 R4 G1]
def h65_b1 {α : Type} (G1 : T2 α) (k : Nat) (a1 : Int) (b_1 : Int) (b0 : Int → Int → Option α) (r0 : Int → Option α) : Option α :=
  bif (!decide (b_1 = 0)) then
    bif decide (b_1 = 0) then
      none
    else
      G1 k b_1 (Int.tmod a1 b_1) b0 r0
  else
    b0 a1 b_1
theorem h65_g1 {α : Type} (F0 : T19 α) (G1 : T2 α) (n : Nat) : GenL (α := α) Try.prog Try.f65 S5 (h65_x F0 G1 n) 1 h65_t1 h65_p1 n G1 (h65_b1 G1) := by intro _ _ _ _; kernel_rfl
def h65_b {α : Type} (F0 : T19 α) (G1 : T2 α) (k : Nat) (a : Int) (b_ : Int) (r0 : Int → Option α) : Option α :=
  G1 k a b_
    (fun a2 _ =>
      F0 k a2 fun v =>
      r0 v)
    r0
theorem h65_g {α : Type} (F0 : T19 α) (G1 : T2 α) (n : Nat) : GenF (α := α) Try.prog Try.f65 S5 (h65_x F0 G1 n) n (h65_b F0 G1) := by intro _ _ _; kernel_rfl
theorem h65_good {α : Type} : ∀ n, GoodFn (α := α) Try.prog 65 (byShape S5.sh (callS S5 impl_gcd n)) := good_of Try.func65 (by kernel_rfl) (by kernel_rfl) (by kernel_rfl) eqs_ok (fun n => h65_g impl_size impl_gcd_l1 n) (by delta h65_b impl_gcd; rfl) (allC h75_good allN) (allC (loop_fine (by kernel_rfl) (fun n => by delta h65_b1; funext _ _ _ _; exact (impl_gcd_l1.eq_2 ..).symm) (fun n => h65_g1 impl_size impl_gcd_l1 n)) allN)

/-! (loop.example/g01297/impl.Point).length -/
abbrev h46_x {α : Type} (F0 : T3 α) : Nat → Ctx α := ctxS M eqs jt0 [⟨65, S5, F0⟩] []
def h46_b {α : Type} (F0 : T3 α) (k : Nat) (a : Int) (a1 : Int) (r0 : Int → Option α) : Option α :=
  F0 k a a1 fun v =>
  r0 v
theorem h46_g {α : Type} (F0 : T3 α) (n : Nat) : GenF (α := α) Try.prog Try.f46 S20 (h46_x F0 n) n (h46_b F0) := by intro _ _ _; kernel_rfl
theorem h46_good {α : Type} : ∀ n, GoodFn (α := α) Try.prog 46 (byShape S20.sh (callS S20 impl_Point_length n)) := good_of Try.func46 (by kernel_rfl) (by kernel_rfl) (by kernel_rfl) eqs_ok (fun n => h46_g impl_gcd n) (by delta h46_b impl_Point_length; rfl) (allC h65_good allN) allN

/-! (loop.example/g01297/impl.Point).isPrimitive -/
abbrev h37_x {α : Type} (F0 : T3 α) : Nat → Ctx α := ctxS M eqs jt0 [⟨46, S20, F0⟩] []
def h37_b {α : Type} (F0 : T3 α) (k : Nat) (a : Int) (a1 : Int) (r0 : Bool → Option α) : Option α :=
  F0 k a a1 fun v =>
  r0 (decide (v = 1))
theorem h37_g {α : Type} (F0 : T3 α) (n : Nat) : GenF (α := α) Try.prog Try.f37 S15 (h37_x F0 n) n (h37_b F0) := by intro _ _ _; kernel_rfl
theorem h37_good {α : Type} : ∀ n, GoodFn (α := α) Try.prog 37 (byShape S15.sh (callS S15 impl_Point_isPrimitive n)) := good_of Try.func37 (by kernel_rfl) (by kernel_rfl) (by kernel_rfl) eqs_ok (fun n => h37_g impl_Point_length n) (by delta h37_b impl_Point_isPrimitive; rfl) (allC h46_good allN) allN

/-! loop.example/g01297/impl.det -/
abbrev h38_x {α : Type}  : Nat → Ctx α := ctxS M eqs jt0 [] []
def h38_b {α : Type}  (_ : Nat) (a : Int) (a1 : Int) (b_ : Int) (b_1 : Int) (r0 : Int → Option α) : Option α :=
  r0 (w64 ((w64 (a * b_1)) - (w64 (a1 * b_))))
theorem h38_g {α : Type}  (n : Nat) : GenF (α := α) Try.prog Try.f38 S7 (h38_x n) n (h38_b) := by intro _ _ _ _ _; kernel_rfl
theorem h38_good {α : Type} : ∀ n, GoodFn (α := α) Try.prog 38 (byShape S7.sh (callS S7 impl_det n)) := good_of Try.func38 (by kernel_rfl) (by kernel_rfl) (by kernel_rfl) eqs_ok (fun n => h38_g n) (by delta h38_b impl_det; rfl) allN allN

/-! loop.example/g01297/impl.IsAngle -/
abbrev h9_x {α : Type} (F0 : T18 α) (F1 : T15 α) (F2 : T6 α) : Nat → Ctx α := ctxS M eqs jt0 [⟨36, S18, F0⟩, ⟨37, S15, F1⟩, ⟨38, S7, F2⟩] []
def h9_b {α : Type} (F0 : T18 α) (F1 : T15 α) (F2 : T6 α) (k : Nat) (a : Int) (a1 : Int) (b_ : Int) (b_1 : Int) (r0 : Bool → Option α) : Option α :=
  F0 k [(a, a1), (b_, b_1)] fun v =>
  bif v then
    F1 k a a1 fun v1 =>
    bif v1 then
      F1 k b_ b_1 fun v2 =>
      bif v2 then
        F2 k a a1 b_ b_1 fun v3 =>
        r0 (decide (1 ≤ v3))
      else
        r0 false
    else
      r0 false
  else
    r0 false
theorem h9_g {α : Type} (F0 : T18 α) (F1 : T15 α) (F2 : T6 α) (n : Nat) : GenF (α := α) Try.prog Try.f9 S21 (h9_x F0 F1 F2 n) n (h9_b F0 F1 F2) := by intro _ _ _ _ _; kernel_rfl
theorem h9_good {α : Type} : ∀ n, GoodFn (α := α) Try.prog 9 (byShape S21.sh (callS S21 impl_IsAngle n)) := good_of Try.func9 (by kernel_rfl) (by kernel_rfl) (by kernel_rfl) eqs_ok (fun n => h9_g impl_points impl_Point_isPrimitive impl_det n) (by delta h9_b impl_IsAngle; rfl) (allC h36_good (allC h37_good (allC h38_good allN))) allN

/-! loop.example/g01297/impl.floor -/
abbrev h68_x {α : Type}  : Nat → Ctx α := ctxS M eqs jt0 [] []
def h68_b {α : Type}  (_ : Nat) (a : Int) (b_ : Int) (r0 : Int → Option α) : Option α :=
  bif decide (b_ = 0) then
    none
  else
  bif decide (b_ = 0) then
    none
  else
  bif (!decide ((Int.tmod a b_) = 0)) then
    bif (!(decide (a < 0) == decide (b_ < 0))) then
      r0 (w64 ((w64 (Int.tdiv a b_)) - 1))
    else
      r0 (w64 (Int.tdiv a b_))
  else
    r0 (w64 (Int.tdiv a b_))
theorem h68_g {α : Type}  (n : Nat) : GenF (α := α) Try.prog Try.f68 S5 (h68_x n) n (h68_b) := by intro _ _ _; kernel_rfl
theorem h68_good {α : Type} : ∀ n, GoodFn (α := α) Try.prog 68 (byShape S5.sh (callS S5 impl_floor n)) := good_of Try.func68 (by kernel_rfl) (by kernel_rfl) (by kernel_rfl) eqs_ok (fun n => h68_g n) (by delta h68_b impl_floor; rfl) allN allN

/-! loop.example/g01297/impl.mod -/
abbrev h76_x {α : Type} (F0 : T3 α) : Nat → Ctx α := ctxS M eqs jt0 [⟨68, S5, F0⟩] []
def h76_b {α : Type} (F0 : T3 α) (k : Nat) (a : Int) (b_ : Int) (r0 : Int → Option α) : Option α :=
  F0 k a b_ fun v =>
  r0 (w64 (a - (w64 (b_ * v))))
theorem h76_g {α : Type} (F0 : T3 α) (n : Nat) : GenF (α := α) Try.prog Try.f76 S5 (h76_x F0 n) n (h76_b F0) := by intro _ _ _; kernel_rfl
theorem h76_good {α : Type} : ∀ n, GoodFn (α := α) Try.prog 76 (byShape S5.sh (callS S5 impl_mod n)) := good_of Try.func76 (by kernel_rfl) (by kernel_rfl) (by kernel_rfl) eqs_ok (fun n => h76_g impl_floor n) (by delta h76_b impl_mod; rfl) (allC h68_good allN) allN

/-! loop.example/g01297/impl.bezout -/
def h77_t2 : Tpl := ⟨(.any :: (.int .i64 :: (.any :: (.any :: (.any :: (.int .i64 :: (.int .i64 :: (.int .i64 :: (.int .i64 :: (anyN 25 [])))))))))), [], []⟩
def h77_p2 : PcS := loopS [.int, .int, .int, .int, .int] [0]
abbrev h77_x {α : Type} (F0 : T3 α) (G2 : T20 α) : Nat → Ctx α := ctxS M eqs jt0 [⟨76, S5, F0⟩] [lpT 2 h77_t2 h77_p2 R4 G2]
def h77_b2 {α : Type} (G2 : T20 α) (k : Nat) (m1 : Int) (r_ : Int) (s : Int) (x : Int) (y : Int) (b0 : Int → Int → Int → Int → Int → Option α) (r0 : Int → Option α) : Option α :=
  bif (!decide (s = 0)) then
    bif decide (s = 0) then
      none
    else
      G2 k m1 s (w64 (r_ - (w64 ((w64 (Int.tdiv r_ s)) * s)))) y (w64 (x - (w64 ((w64 (Int.tdiv r_ s)) * y)))) b0 r0
  else
    b0 m1 r_ s x y
theorem h77_g2 {α : Type} (F0 : T3 α) (G2 : T20 α) (n : Nat) : GenL (α := α) Try.prog Try.f77 S5 (h77_x F0 G2 n) 2 h77_t2 h77_p2 n G2 (h77_b2 G2) := by intro _ _ _ _ _ _ _; kernel_rfl
def h77_b {α : Type} (F0 : T3 α) (G2 : T20 α) (k : Nat) (a : Int) (m : Int) (r0 : Int → Option α) : Option α :=
  F0 k a m fun v =>
  G2 k m v m 1 0
    (fun m2 _ _ x1 _ =>
      F0 k x1 m2 fun v1 =>
      r0 v1)
    r0
theorem h77_g {α : Type} (F0 : T3 α) (G2 : T20 α) (n : Nat) : GenF (α := α) Try.prog Try.f77 S5 (h77_x F0 G2 n) n (h77_b F0 G2) := by intro _ _ _; kernel_rfl
theorem h77_good {α : Type} : ∀ n, GoodFn (α := α) Try.prog 77 (byShape S5.sh (callS S5 impl_bezout n)) := good_of Try.func77 (by kernel_rfl) (by kernel_rfl) (by kernel_rfl) eqs_ok (fun n => h77_g impl_mod impl_bezout_l2 n) (by delta h77_b impl_bezout; rfl) (allC h76_good allN) (allC (loop_fine (by kernel_rfl) (fun n => by delta h77_b2; funext _ _ _ _ _ _ _; exact (impl_bezout_l2.eq_2 ..).symm) (fun n => h77_g2 impl_mod impl_bezout_l2 n)) allN)

/-! (loop.example/g01297/impl.Point).mate -/
abbrev h67_x {α : Type} (F0 : T19 α) (F1 : T3 α) (F2 : T3 α) : Nat → Ctx α := ctxS M eqs jt0 [⟨75, S19, F0⟩, ⟨77, S5, F1⟩, ⟨76, S5, F2⟩] []
def h67_b {α : Type} (F0 : T19 α) (F1 : T3 α) (F2 : T3 α) (k : Nat) (a : Int) (a1 : Int) (r0 : Int → Int → Option α) : Option α :=
  bif decide (a = 0) then
    r0 (w64 (0 - a1)) 0
  else
    F0 k a fun v =>
    F1 k a1 v fun v1 =>
    F0 k a fun v2 =>
    F2 k (w64 (0 - v1)) v2 fun v3 =>
    bif decide (a = 0) then
      none
    else
      r0 v3 (w64 (Int.tdiv (w64 (1 + (w64 (a1 * v3)))) a))
theorem h67_g {α : Type} (F0 : T19 α) (F1 : T3 α) (F2 : T3 α) (n : Nat) : GenF (α := α) Try.prog Try.f67 S6 (h67_x F0 F1 F2 n) n (h67_b F0 F1 F2) := by intro _ _ _; kernel_rfl
theorem h67_good {α : Type} : ∀ n, GoodFn (α := α) Try.prog 67 (byShape S6.sh (callS S6 impl_Point_mate n)) := good_of Try.func67 (by kernel_rfl) (by kernel_rfl) (by kernel_rfl) eqs_ok (fun n => h67_g impl_size impl_bezout impl_mod n) (by delta h67_b impl_Point_mate; rfl) (allC h75_good (allC h77_good (allC h76_good allN))) allN

/-! (loop.example/g01297/impl.Point).plus -/
abbrev h64_x {α : Type}  : Nat → Ctx α := ctxS M eqs jt0 [] []
def h64_b {α : Type}  (_ : Nat) (a : Int) (a1 : Int) (b_ : Int) (b_1 : Int) (k_ : Int) (r0 : Int → Int → Option α) : Option α :=
  r0 (w64 (a + (w64 (k_ * b_)))) (w64 (a1 + (w64 (k_ * b_1))))
theorem h64_g {α : Type}  (n : Nat) : GenF (α := α) Try.prog Try.f64 S9 (h64_x n) n (h64_b) := by intro _ _ _ _ _ _; kernel_rfl
theorem h64_good {α : Type} : ∀ n, GoodFn (α := α) Try.prog 64 (byShape S9.sh (callS S9 impl_Point_plus n)) := good_of Try.func64 (by kernel_rfl) (by kernel_rfl) (by kernel_rfl) eqs_ok (fun n => h64_g n) (by delta h64_b impl_Point_plus; rfl) allN allN

/-! (loop.example/g01297/impl.Point).less -/
abbrev h45_x {α : Type} (F0 : T9 α) : Nat → Ctx α := ctxS M eqs jt0 [⟨64, S9, F0⟩] []
def h45_b {α : Type} (F0 : T9 α) (k : Nat) (a : Int) (a1 : Int) (b_ : Int) (b_1 : Int) (r0 : Int → Int → Option α) : Option α :=
  F0 k a a1 b_ b_1 (-1) fun v v1 =>
  r0 v v1
theorem h45_g {α : Type} (F0 : T9 α) (n : Nat) : GenF (α := α) Try.prog Try.f45 S22 (h45_x F0 n) n (h45_b F0) := by intro _ _ _ _ _; kernel_rfl
theorem h45_good {α : Type} : ∀ n, GoodFn (α := α) Try.prog 45 (byShape S22.sh (callS S22 impl_Point_less n)) := good_of Try.func45 (by kernel_rfl) (by kernel_rfl) (by kernel_rfl) eqs_ok (fun n => h45_g impl_Point_plus n) (by delta h45_b impl_Point_less; rfl) (allC h64_good allN) allN

/-! loop.example/g01297/impl.sailOf -/
def h48_t5 : Tpl := ⟨(.any :: (.any :: (.any :: (.ptr 192 0 0 :: (.any :: (.any :: (.any :: (.ptr 448 0 0 :: (.ptr 1792 0 0 :: (.ptr 576 0 0 :: (anyN 81 []))))))))))), [(192, .ints 2 25 .i64 2), (448, .ints 2 25 .i64 2), (1792, .mix 2 53 [.sl 1600, .sl 1664]), (576, .ints 2 25 .i64 2), (1600, .rows 2 25 .pt), (1664, .rows 2 2 (.int .i64))], []⟩
def h48_p5 : PcS := loopS [.int, .int, .int, .int, .int, .int, .rows .pt, .rows (.int .i64)] []
abbrev h48_x {α : Type} (F0 : T5 α) (F1 : T6 α) (F2 : T3 α) (F3 : T9 α) (F4 : T15 α) (F5 : T21 α) (G5 : T22 α) : Nat → Ctx α := ctxS M eqs jt0 [⟨67, S6, F0⟩, ⟨38, S7, F1⟩, ⟨68, S5, F2⟩, ⟨64, S9, F3⟩, ⟨43, S15, F4⟩, ⟨45, S22, F5⟩] [lpT 5 h48_t5 h48_p5 R8 G5]
def h48_b5 {α : Type} (F1 : T6 α) (F2 : T3 α) (F3 : T9 α) (F4 : T15 α) (F5 : T21 α) (G5 : T22 α) (k : Nat) (b_2 : Int) (b_3 : Int) (now : Int) (now1 : Int) (before : Int) (before1 : Int) (b_4 : List (Int × Int)) (b_5 : List Int) (r0 : Int → Option α) (r1 : (List (Int × Int)) → List Int → Int → Option α) : Option α :=
  bif decide (((List.length b_4) + 1) ≤ big) then
    bif decide (2000 < (((List.length (b_4 ++ [(now, now1)])) : Nat) : Int)) then
      r0 3
    else
      F4 k now now1 fun v7 =>
      bif (!v7) then
        r0 3
      else
      bif (decide (now = b_2) && decide (now1 = b_3)) then
        bif decide (((List.length b_5) + 1) ≤ big) then
          r1 (b_4 ++ [(now, now1)]) (b_5 ++ [0]) 0
        else
          none
      else
        F1 k before before1 b_2 b_3 fun v8 =>
        F1 k now now1 b_2 b_3 fun v9 =>
        F2 k (w64 (0 - v8)) v9 fun v10 =>
        bif decide (((List.length b_5) + 1) ≤ big) then
          F5 k 0 0 before before1 fun v11 v12 =>
          F3 k v11 v12 now now1 (w64 (0 - v10)) fun v13 v14 =>
          G5 k b_2 b_3 v13 v14 now now1 (b_4 ++ [(now, now1)]) (b_5 ++ [(w64 (0 - v10))]) r0 r1
        else
          none
  else
    none
theorem h48_g5 {α : Type} (F0 : T5 α) (F1 : T6 α) (F2 : T3 α) (F3 : T9 α) (F4 : T15 α) (F5 : T21 α) (G5 : T22 α) (n : Nat) : GenL (α := α) Try.prog Try.f48 S23 (h48_x F0 F1 F2 F3 F4 F5 G5 n) 5 h48_t5 h48_p5 n G5 (h48_b5 F1 F2 F3 F4 F5 G5) := by intro _ _ _ _ _ _ _ _ _ _; kernel_rfl
def h48_b {α : Type} (F0 : T5 α) (F1 : T6 α) (F2 : T3 α) (F3 : T9 α) (G5 : T22 α) (k : Nat) (a : Int) (a1 : Int) (b_ : Int) (b_1 : Int) (r0 : Int → Option α) (r1 : (List (Int × Int)) → List Int → Int → Option α) : Option α :=
  F0 k a a1 fun v v1 =>
  F1 k v v1 b_ b_1 fun v2 =>
  F1 k a a1 b_ b_1 fun v3 =>
  F2 k v2 v3 fun v4 =>
  F3 k v v1 a a1 (w64 (0 - v4)) fun v5 v6 =>
  G5 k b_ b_1 v5 v6 a a1 [(a, a1)] [0]
    r0 r1
theorem h48_g {α : Type} (F0 : T5 α) (F1 : T6 α) (F2 : T3 α) (F3 : T9 α) (F4 : T15 α) (F5 : T21 α) (G5 : T22 α) (n : Nat) : GenF (α := α) Try.prog Try.f48 S23 (h48_x F0 F1 F2 F3 F4 F5 G5 n) n (h48_b F0 F1 F2 F3 G5) := by intro _ _ _ _ _; kernel_rfl
theorem h48_good {α : Type} : ∀ n, GoodFn (α := α) Try.prog 48 (byShape S23.sh (callS S23 impl_sailOf n)) := good_of Try.func48 (by kernel_rfl) (by kernel_rfl) (by kernel_rfl) eqs_ok (fun n => h48_g impl_Point_mate impl_det impl_floor impl_Point_plus impl_IsPoint impl_Point_less impl_sailOf_l5 n) (by delta h48_b impl_sailOf; rfl) (allC h67_good (allC h38_good (allC h68_good (allC h64_good (allC h43_good (allC h45_good allN)))))) (allC (loop_fine (by kernel_rfl) (fun n => by delta h48_b5; funext _ _ _ _ _ _ _ _ _ _; exact (impl_sailOf_l5.eq_2 ..).symm) (fun n => h48_g5 impl_Point_mate impl_det impl_floor impl_Point_plus impl_IsPoint impl_Point_less impl_sailOf_l5 n)) allN)

/-! loop.example/g01297/impl.angleSail -/
abbrev h34_x {α : Type} (F0 : T23 α) (F1 : T24 α) : Nat → Ctx α := ctxS M eqs jt0 [⟨9, S21, F0⟩, ⟨48, S23, F1⟩] []
def h34_b {α : Type} (F0 : T23 α) (F1 : T24 α) (k : Nat) (a : Int) (a1 : Int) (b_ : Int) (b_1 : Int) (r0 : Int → Option α) (r1 : (List (Int × Int)) → List Int → Int → Option α) : Option α :=
  F0 k a a1 b_ b_1 fun v =>
  bif (!v) then
    r0 1
  else
    F1 k a a1 b_ b_1
      (fun v1 =>
        r0 v1)
      (fun v2 v3 v4 =>
        r1 v2 v3 v4)
theorem h34_g {α : Type} (F0 : T23 α) (F1 : T24 α) (n : Nat) : GenF (α := α) Try.prog Try.f34 S23 (h34_x F0 F1 n) n (h34_b F0 F1) := by intro _ _ _ _ _; kernel_rfl
theorem h34_good {α : Type} : ∀ n, GoodFn (α := α) Try.prog 34 (byShape S23.sh (callS S23 impl_angleSail n)) := good_of Try.func34 (by kernel_rfl) (by kernel_rfl) (by kernel_rfl) eqs_ok (fun n => h34_g impl_IsAngle impl_sailOf n) (by delta h34_b impl_angleSail; rfl) (allC h9_good (allC h48_good allN)) allN

/-! loop.example/g01297/impl.SailPoints -/
abbrev h6_x {α : Type} (F0 : T24 α) : Nat → Ctx α := ctxS M eqs jt0 [⟨34, S23, F0⟩] []
def h6_b {α : Type} (F0 : T24 α) (k : Nat) (a : Int) (a1 : Int) (b_ : Int) (b_1 : Int) (r0 : Int → Option α) (r1 : (List (Int × Int)) → Int → Option α) : Option α :=
  F0 k a a1 b_ b_1
    (fun v =>
      bif (!decide (v = 0)) then
        r0 v
      else
        none)
    (fun v1 _ v3 =>
      bif (!decide (v3 = 0)) then
        r0 v3
      else
        r1 v1 0)
theorem h6_g {α : Type} (F0 : T24 α) (n : Nat) : GenF (α := α) Try.prog Try.f6 S24 (h6_x F0 n) n (h6_b F0) := by intro _ _ _ _ _; kernel_rfl
theorem h6_good {α : Type} : ∀ n, GoodFn (α := α) Try.prog 6 (byShape S24.sh (callS S24 impl_SailPoints n)) := good_of Try.func6 (by kernel_rfl) (by kernel_rfl) (by kernel_rfl) eqs_ok (fun n => h6_g impl_angleSail n) (by delta h6_b impl_SailPoints; rfl) (allC h34_good allN) allN

/-! loop.example/g01297/spec.l01In -/
abbrev h78_x {α : Type}  : Nat → Ctx α := ctxS M eqs jt0 [] []
def h78_b {α : Type}  (_ : Nat) (n_ : Int) (low : Int) (high : Int) (r0 : Bool → Option α) : Option α :=
  bif decide (low ≤ n_) then
    r0 (decide (n_ ≤ high))
  else
    r0 false
theorem h78_g {α : Type}  (n : Nat) : GenF (α := α) Try.prog Try.f78 S13 (h78_x n) n (h78_b) := by intro _ _ _ _; kernel_rfl
theorem h78_good {α : Type} : ∀ n, GoodFn (α := α) Try.prog 78 (byShape S13.sh (callS S13 spec_l01In n)) := good_of Try.func78 (by kernel_rfl) (by kernel_rfl) (by kernel_rfl) eqs_ok (fun n => h78_g n) (by delta h78_b spec_l01In; rfl) allN allN

/-! loop.example/g01297/spec.l01Fits -/
abbrev h69_x {α : Type} (F0 : T13 α) : Nat → Ctx α := ctxS M eqs jt0 [⟨78, S13, F0⟩] []
def h69_b {α : Type} (F0 : T13 α) (k : Nat) (x : Int) (r0 : Bool → Option α) : Option α :=
  F0 k x (-1000000) 1000000 fun v =>
  r0 v
theorem h69_g {α : Type} (F0 : T13 α) (n : Nat) : GenF (α := α) Try.prog Try.f69 S14 (h69_x F0 n) n (h69_b F0) := by intro _ _; kernel_rfl
theorem h69_good {α : Type} : ∀ n, GoodFn (α := α) Try.prog 69 (byShape S14.sh (callS S14 spec_l01Fits n)) := good_of Try.func69 (by kernel_rfl) (by kernel_rfl) (by kernel_rfl) eqs_ok (fun n => h69_g spec_l01In n) (by delta h69_b spec_l01Fits; rfl) (allC h78_good allN) allN

/-! loop.example/g01297/spec.l01Is -/
abbrev h49_x {α : Type} (F0 : T14 α) : Nat → Ctx α := ctxS M eqs jt0 [⟨69, S14, F0⟩] []
def h49_b {α : Type} (F0 : T14 α) (k : Nat) (a : Int) (a1 : Int) (r0 : Bool → Option α) : Option α :=
  F0 k a fun v =>
  bif v then
    F0 k a1 fun v1 =>
    r0 v1
  else
    r0 false
theorem h49_g {α : Type} (F0 : T14 α) (n : Nat) : GenF (α := α) Try.prog Try.f49 S15 (h49_x F0 n) n (h49_b F0) := by intro _ _ _; kernel_rfl
theorem h49_good {α : Type} : ∀ n, GoodFn (α := α) Try.prog 49 (byShape S15.sh (callS S15 spec_l01Is n)) := good_of Try.func49 (by kernel_rfl) (by kernel_rfl) (by kernel_rfl) eqs_ok (fun n => h49_g spec_l01Fits n) (by delta h49_b spec_l01Is; rfl) (allC h69_good allN) allN

/-! loop.example/g01297/spec.l03Is -/
abbrev h39_x {α : Type} (F0 : T15 α) (F1 : T3 α) (F2 : T6 α) : Nat → Ctx α := ctxS M eqs jt0 [⟨49, S15, F0⟩, ⟨61, S5, F1⟩, ⟨51, S7, F2⟩] []
def h39_b {α : Type} (F0 : T15 α) (F1 : T3 α) (F2 : T6 α) (k : Nat) (a : Int) (a1 : Int) (b_ : Int) (b_1 : Int) (r0 : Bool → Option α) : Option α :=
  F0 k a a1 fun v =>
  bif v then
    F0 k b_ b_1 fun v1 =>
    bif v1 then
      F1 k a a1 fun v2 =>
      bif decide (v2 = 1) then
        F1 k b_ b_1 fun v3 =>
        bif decide (v3 = 1) then
          F2 k a a1 b_ b_1 fun v4 =>
          r0 (decide (1 ≤ v4))
        else
          r0 false
      else
        r0 false
    else
      r0 false
  else
    r0 false
theorem h39_g {α : Type} (F0 : T15 α) (F1 : T3 α) (F2 : T6 α) (n : Nat) : GenF (α := α) Try.prog Try.f39 S21 (h39_x F0 F1 F2 n) n (h39_b F0 F1 F2) := by intro _ _ _ _ _; kernel_rfl
theorem h39_good {α : Type} : ∀ n, GoodFn (α := α) Try.prog 39 (byShape S21.sh (callS S21 spec_l03Is n)) := good_of Try.func39 (by kernel_rfl) (by kernel_rfl) (by kernel_rfl) eqs_ok (fun n => h39_g spec_l01Is spec_l01Gcd spec_l01Det n) (by delta h39_b spec_l03Is; rfl) (allC h49_good (allC h61_good (allC h51_good allN))) allN

/-! loop.example/g01297/spec.l01Rest -/
abbrev h80_x {α : Type}  : Nat → Ctx α := ctxS M eqs jt0 [] []
def h80_b {α : Type}  (_ : Nat) (n_ : Int) (x : Int) (r0 : Int → Option α) : Option α :=
  bif decide (n_ = 0) then
    none
  else
  bif decide (n_ = 0) then
    none
  else
    r0 (Int.tmod (w64 ((Int.tmod x n_) + n_)) n_)
theorem h80_g {α : Type}  (n : Nat) : GenF (α := α) Try.prog Try.f80 S5 (h80_x n) n (h80_b) := by intro _ _ _; kernel_rfl
theorem h80_good {α : Type} : ∀ n, GoodFn (α := α) Try.prog 80 (byShape S5.sh (callS S5 spec_l01Rest n)) := good_of Try.func80 (by kernel_rfl) (by kernel_rfl) (by kernel_rfl) eqs_ok (fun n => h80_g n) (by delta h80_b spec_l01Rest; rfl) allN allN

/-! loop.example/g01297/spec.l01Base -/
def h71_t5 : Tpl := ⟨(.any :: (.ptr 64 0 0 :: (.ptr 128 0 0 :: (.int .i64 :: (.int .i64 :: (.int .i64 :: (.int .i64 :: (.int .i64 :: (anyN 50 []))))))))), [(64, .ints 2 25 .i64 2), (128, .ints 2 25 .i64 2)], []⟩
def h71_p5 : PcS := loopS [.int, .int, .int, .int, .int, .int, .int, .int, .int] [0]
abbrev h71_x {α : Type} (F0 : T3 α) (G5 : T25 α) : Nat → Ctx α := ctxS M eqs jt0 [⟨80, S5, F0⟩] [lpT 5 h71_t5 h71_p5 R5 G5]
def h71_b5 {α : Type} (G5 : T25 α) (k : Nat) (n_ : Int) (x : Int) (before : Int) (rest : Int) (next : Int) (a2 : Int) (a3 : Int) (x1 : Int) (x2 : Int) (b0 : Int → Int → Int → Int → Int → Int → Int → Int → Int → Option α) (r0 : Int → Int → Option α) : Option α :=
  bif (!decide (next = 0)) then
    bif decide (next = 0) then
      none
    else
      G5 k n_ before (w64 (x - (w64 ((w64 (Int.tdiv rest next)) * before)))) next (w64 (rest - (w64 ((w64 (Int.tdiv rest next)) * next)))) a2 a3 x1 x2 b0 r0
  else
    b0 n_ x before rest next a2 a3 x1 x2
theorem h71_g5 {α : Type} (F0 : T3 α) (G5 : T25 α) (n : Nat) : GenL (α := α) Try.prog Try.f71 S6 (h71_x F0 G5 n) 5 h71_t5 h71_p5 n G5 (h71_b5 G5) := by intro _ _ _ _ _ _ _ _ _ _ _; kernel_rfl
def h71_b {α : Type} (F0 : T3 α) (G5 : T25 α) (k : Nat) (a : Int) (a1 : Int) (r0 : Int → Int → Option α) : Option α :=
  bif decide (a = 0) then
    r0 (w64 (0 - a1)) 0
  else
    F0 k (max a (w64 (0 - a))) a1 fun v =>
    G5 k (max a (w64 (0 - a))) 1 0 v (max a (w64 (0 - a))) a a1 0 0
      (fun n_1 x3 _ _ _ a4 a5 _ _ =>
        F0 k n_1 (w64 (0 - x3)) fun v1 =>
        bif decide (a4 = 0) then
          none
        else
          r0 v1 (w64 (Int.tdiv (w64 (1 + (w64 (a5 * v1)))) a4)))
      r0
theorem h71_g {α : Type} (F0 : T3 α) (G5 : T25 α) (n : Nat) : GenF (α := α) Try.prog Try.f71 S6 (h71_x F0 G5 n) n (h71_b F0 G5) := by intro _ _ _; kernel_rfl
theorem h71_good {α : Type} : ∀ n, GoodFn (α := α) Try.prog 71 (byShape S6.sh (callS S6 spec_l01Base n)) := good_of Try.func71 (by kernel_rfl) (by kernel_rfl) (by kernel_rfl) eqs_ok (fun n => h71_g spec_l01Rest spec_l01Base_l5 n) (by delta h71_b spec_l01Base; rfl) (allC h80_good allN) (allC (loop_fine (by kernel_rfl) (fun n => by delta h71_b5; funext _ _ _ _ _ _ _ _ _ _ _; exact (spec_l01Base_l5.eq_2 ..).symm) (fun n => h71_g5 spec_l01Rest spec_l01Base_l5 n)) allN)

/-! loop.example/g01297/spec.l01Floor -/
abbrev h72_x {α : Type}  : Nat → Ctx α := ctxS M eqs jt0 [] []
def h72_b {α : Type}  (_ : Nat) (p_ : Int) (q_ : Int) (r0 : Int → Option α) : Option α :=
  bif decide (q_ = 0) then
    none
  else
  bif decide (q_ = 0) then
    none
  else
  bif (!decide ((Int.tmod p_ q_) = 0)) then
    bif (!(decide (p_ < 0) == decide (q_ < 0))) then
      r0 (w64 ((w64 (Int.tdiv p_ q_)) - 1))
    else
      r0 (w64 (Int.tdiv p_ q_))
  else
    r0 (w64 (Int.tdiv p_ q_))
theorem h72_g {α : Type}  (n : Nat) : GenF (α := α) Try.prog Try.f72 S5 (h72_x n) n (h72_b) := by intro _ _ _; kernel_rfl
theorem h72_good {α : Type} : ∀ n, GoodFn (α := α) Try.prog 72 (byShape S5.sh (callS S5 spec_l01Floor n)) := good_of Try.func72 (by kernel_rfl) (by kernel_rfl) (by kernel_rfl) eqs_ok (fun n => h72_g n) (by delta h72_b spec_l01Floor; rfl) allN allN

/-! loop.example/g01297/spec.l03Sail -/
def h58_t5 : Tpl := ⟨(.any :: (.any :: (.any :: (.ptr 192 0 0 :: (anyN 6 (.sl 2112 :: (.sl 2176 :: (anyN 82 [])))))))), [(192, .ints 2 25 .i64 2), (2112, .rows 2 25 .pt), (2176, .rows 2 2 (.int .i64))], []⟩
def h58_p5 : PcS := loopS [.int, .int, .rows .pt, .rows (.int .i64)] []
abbrev h58_x {α : Type} (F0 : T6 α) (F1 : T5 α) (F2 : T3 α) (F3 : T9 α) (G5 : T26 α) : Nat → Ctx α := ctxS M eqs jt0 [⟨51, S7, F0⟩, ⟨71, S6, F1⟩, ⟨72, S5, F2⟩, ⟨57, S9, F3⟩] [lpT 5 h58_t5 h58_p5 R10 G5]
def h58_b5 {α : Type} (F0 : T6 α) (F2 : T3 α) (F3 : T9 α) (G5 : T26 α) (k : Nat) (b_2 : Int) (b_3 : Int) (points : List (Int × Int)) (numbers : List Int) (r0 : Bool → Option α) (r1 : (List (Int × Int)) → List Int → Bool → Option α) : Option α :=
  bif decide (2000 < (((List.length points) : Nat) : Int)) then
    r0 false
  else
  bif (decide (0 ≤ (w64 ((((List.length points) : Nat) : Int) - 2))) && decide ((w64 ((((List.length points) : Nat) : Int) - 2)) < (((List.length points) : Nat) : Int))) then
    (points[(w64 ((((List.length points) : Nat) : Int) - 2)).toNat]?).bind fun e_ =>
    bif (decide (0 ≤ (w64 ((((List.length points) : Nat) : Int) - 1))) && decide ((w64 ((((List.length points) : Nat) : Int) - 1)) < (((List.length points) : Nat) : Int))) then
      (points[(w64 ((((List.length points) : Nat) : Int) - 1)).toNat]?).bind fun e_1 =>
      F0 k e_.1 e_.2 b_2 b_3 fun v7 =>
      F0 k e_1.1 e_1.2 b_2 b_3 fun v8 =>
      bif decide (v8 = 0) then
        bif decide (((List.length numbers) + 1) ≤ big) then
          r1 points (numbers ++ [2]) true
        else
          none
      else
        F2 k (w64 (0 - v7)) v8 fun v9 =>
        bif decide (((List.length numbers) + 1) ≤ big) then
          bif (decide (0 ≤ (w64 ((((List.length points) : Nat) : Int) - 2))) && decide ((w64 ((((List.length points) : Nat) : Int) - 2)) < (((List.length points) : Nat) : Int))) then
            (points[(w64 ((((List.length points) : Nat) : Int) - 2)).toNat]?).bind fun e_2 =>
            bif (decide (0 ≤ (w64 ((((List.length points) : Nat) : Int) - 2))) && decide ((w64 ((((List.length points) : Nat) : Int) - 2)) < (((List.length points) : Nat) : Int))) then
              (points[(w64 ((((List.length points) : Nat) : Int) - 2)).toNat]?).bind fun e_3 =>
              bif (decide (0 ≤ (w64 ((((List.length points) : Nat) : Int) - 1))) && decide ((w64 ((((List.length points) : Nat) : Int) - 1)) < (((List.length points) : Nat) : Int))) then
                (points[(w64 ((((List.length points) : Nat) : Int) - 1)).toNat]?).bind fun e_4 =>
                F3 k (w64 (0 - e_2.1)) (w64 (0 - e_3.2)) e_4.1 e_4.2 (w64 (0 - v9)) fun v10 v11 =>
                bif decide (((List.length points) + 1) ≤ big) then
                  G5 k b_2 b_3 (points ++ [(v10, v11)]) (numbers ++ [(w64 (0 - v9))]) r0 r1
                else
                  none
              else
                none
            else
              none
          else
            none
        else
          none
    else
      none
  else
    none
theorem h58_g5 {α : Type} (F0 : T6 α) (F1 : T5 α) (F2 : T3 α) (F3 : T9 α) (G5 : T26 α) (n : Nat) : GenL (α := α) Try.prog Try.f58 S25 (h58_x F0 F1 F2 F3 G5 n) 5 h58_t5 h58_p5 n G5 (h58_b5 F0 F2 F3 G5) := by intro _ _ _ _ _ _; kernel_rfl
def h58_b {α : Type} (F0 : T6 α) (F1 : T5 α) (F2 : T3 α) (F3 : T9 α) (G5 : T26 α) (k : Nat) (a : Int) (a1 : Int) (b_ : Int) (b_1 : Int) (r0 : Bool → Option α) (r1 : (List (Int × Int)) → List Int → Bool → Option α) : Option α :=
  F0 k a a1 b_ b_1 fun v =>
  F1 k a a1 fun v1 v2 =>
  F0 k v1 v2 b_ b_1 fun v3 =>
  F2 k v3 v fun v4 =>
  F3 k v1 v2 a a1 (w64 (0 - v4)) fun v5 v6 =>
  G5 k b_ b_1 [(a, a1), (v5, v6)] [2]
    r0 r1
theorem h58_g {α : Type} (F0 : T6 α) (F1 : T5 α) (F2 : T3 α) (F3 : T9 α) (G5 : T26 α) (n : Nat) : GenF (α := α) Try.prog Try.f58 S25 (h58_x F0 F1 F2 F3 G5 n) n (h58_b F0 F1 F2 F3 G5) := by intro _ _ _ _ _; kernel_rfl
theorem h58_good {α : Type} : ∀ n, GoodFn (α := α) Try.prog 58 (byShape S25.sh (callS S25 spec_l03Sail n)) := good_of Try.func58 (by kernel_rfl) (by kernel_rfl) (by kernel_rfl) eqs_ok (fun n => h58_g spec_l01Det spec_l01Base spec_l01Floor spec_l01Plus spec_l03Sail_l5 n) (by delta h58_b spec_l03Sail; rfl) (allC h51_good (allC h71_good (allC h72_good (allC h57_good allN)))) (allC (loop_fine (by kernel_rfl) (fun n => by delta h58_b5; funext _ _ _ _ _ _; exact (spec_l03Sail_l5.eq_2 ..).symm) (fun n => h58_g5 spec_l01Det spec_l01Base spec_l01Floor spec_l01Plus spec_l03Sail_l5 n)) allN)

/-! loop.example/g01297/spec.l03Code -/
abbrev h35_x {α : Type} (F0 : T23 α) (F1 : T27 α) : Nat → Ctx α := ctxS M eqs jt0 [⟨39, S21, F0⟩, ⟨58, S25, F1⟩] []
def h35_b {α : Type} (F0 : T23 α) (F1 : T27 α) (k : Nat) (a : Int) (a1 : Int) (b_ : Int) (b_1 : Int) (r0 : Int → Option α) (r1 : (List (Int × Int)) → List Int → Int → Option α) : Option α :=
  F0 k a a1 b_ b_1 fun v =>
  bif (!v) then
    r0 1
  else
    F1 k a a1 b_ b_1
      (fun v1 =>
        bif (!v1) then
          r0 3
        else
          r0 0)
      (fun v2 v3 v4 =>
        bif (!v4) then
          r0 3
        else
          r1 v2 v3 0)
theorem h35_g {α : Type} (F0 : T23 α) (F1 : T27 α) (n : Nat) : GenF (α := α) Try.prog Try.f35 S26 (h35_x F0 F1 n) n (h35_b F0 F1) := by intro _ _ _ _ _; kernel_rfl
theorem h35_good {α : Type} : ∀ n, GoodFn (α := α) Try.prog 35 (byShape S26.sh (callS S26 spec_l03Code n)) := good_of Try.func35 (by kernel_rfl) (by kernel_rfl) (by kernel_rfl) eqs_ok (fun n => h35_g spec_l03Is spec_l03Sail n) (by delta h35_b spec_l03Code; rfl) (allC h39_good (allC h58_good allN)) allN

/-! loop.example/g01297/spec.SailPoints -/
abbrev h7_x {α : Type} (F0 : T24 α) : Nat → Ctx α := ctxS M eqs jt0 [⟨35, S26, F0⟩] []
def h7_b {α : Type} (F0 : T24 α) (k : Nat) (a : Int) (a1 : Int) (b_ : Int) (b_1 : Int) (r0 : Int → Option α) (r1 : (List (Int × Int)) → Int → Option α) : Option α :=
  F0 k a a1 b_ b_1
    (fun v =>
      r0 v)
    (fun v1 _ v3 =>
      r1 v1 v3)
theorem h7_g {α : Type} (F0 : T24 α) (n : Nat) : GenF (α := α) Try.prog Try.f7 S24 (h7_x F0 n) n (h7_b F0) := by intro _ _ _ _ _; kernel_rfl
theorem h7_good {α : Type} : ∀ n, GoodFn (α := α) Try.prog 7 (byShape S24.sh (callS S24 spec_SailPoints n)) := good_of Try.func7 (by kernel_rfl) (by kernel_rfl) (by kernel_rfl) eqs_ok (fun n => h7_g spec_l03Code n) (by delta h7_b spec_SailPoints; rfl) (allC h35_good allN) allN

/-! loop.example/g01297/laws.points5 -/
abbrev h8_x {α : Type}  : Nat → Ctx α := ctxS M eqs jt0 [] []
def h8_b {α : Type}  (_ : Nat) (r0 : Bool → Option α) : Option α :=
  r0 true
theorem h8_g {α : Type}  (n : Nat) : GenF (α := α) Try.prog Try.f8 S27 (h8_x n) n (h8_b) := by intro _; kernel_rfl
theorem h8_good {α : Type} : ∀ n, GoodFn (α := α) Try.prog 8 (byShape S27.sh (callS S27 laws_points5_0N_1N n)) := good_of Try.func8 (by kernel_rfl) (by kernel_rfl) (by kernel_rfl) eqs_ok (fun n => h8_g n) (by delta h8_b laws_points5_0N_1N; rfl) allN allN

/-! loop.example/g01297/spec.IsAngle -/
abbrev h10_x {α : Type} (F0 : T23 α) : Nat → Ctx α := ctxS M eqs jt0 [⟨39, S21, F0⟩] []
def h10_b {α : Type} (F0 : T23 α) (k : Nat) (a : Int) (a1 : Int) (b_ : Int) (b_1 : Int) (r0 : Bool → Option α) : Option α :=
  F0 k a a1 b_ b_1 fun v =>
  r0 v
theorem h10_g {α : Type} (F0 : T23 α) (n : Nat) : GenF (α := α) Try.prog Try.f10 S21 (h10_x F0 n) n (h10_b F0) := by intro _ _ _ _ _; kernel_rfl
theorem h10_good {α : Type} : ∀ n, GoodFn (α := α) Try.prog 10 (byShape S21.sh (callS S21 spec_IsAngle n)) := good_of Try.func10 (by kernel_rfl) (by kernel_rfl) (by kernel_rfl) eqs_ok (fun n => h10_g spec_l03Is n) (by delta h10_b spec_IsAngle; rfl) (allC h39_good allN) allN

/-! loop.example/g01297/impl.AreaBelow -/
abbrev h11_x {α : Type} (F0 : T24 α) : Nat → Ctx α := ctxS M eqs jt0 [⟨34, S23, F0⟩] []
def h11_b {α : Type} (F0 : T24 α) (k : Nat) (a : Int) (a1 : Int) (b_ : Int) (b_1 : Int) (r0 : Int → Int → Option α) : Option α :=
  F0 k a a1 b_ b_1
    (fun v =>
      bif (!decide (v = 0)) then
        r0 0 v
      else
        none)
    (fun v1 _ v3 =>
      bif (!decide (v3 = 0)) then
        r0 0 v3
      else
        r0 (w64 ((((List.length v1) : Nat) : Int) - 1)) 0)
theorem h11_g {α : Type} (F0 : T24 α) (n : Nat) : GenF (α := α) Try.prog Try.f11 S28 (h11_x F0 n) n (h11_b F0) := by intro _ _ _ _ _; kernel_rfl
theorem h11_good {α : Type} : ∀ n, GoodFn (α := α) Try.prog 11 (byShape S28.sh (callS S28 impl_AreaBelow n)) := good_of Try.func11 (by kernel_rfl) (by kernel_rfl) (by kernel_rfl) eqs_ok (fun n => h11_g impl_angleSail n) (by delta h11_b impl_AreaBelow; rfl) (allC h34_good allN) allN

/-! (*loop.example/g01297/impl.sail).vertices -/
abbrev h40_x {α : Type}  : Nat → Ctx α := ctxS M eqs jt0 [] []
def h40_b {α : Type}  (_ : Nat) : Option α :=
  none
theorem h40_g {α : Type}  (n : Nat) : GenF (α := α) Try.prog Try.f40 S29 (h40_x n) n (h40_b) := by intro _; kernel_rfl
theorem h40_good {α : Type} : ∀ n, GoodFn (α := α) Try.prog 40 (byShape S29.sh (callS S29 impl_sail_vertices_0Z n)) := good_of Try.func40 (by kernel_rfl) (by kernel_rfl) (by kernel_rfl) eqs_ok (fun n => h40_g n) (by delta h40_b impl_sail_vertices_0Z; rfl) allN allN

/-! (*loop.example/g01297/impl.sail).vertices -/
def h40a_t3 : Tpl := ⟨(.ptr 0 0 0 :: (.any :: (.any :: (.sl 384 :: (anyN 6 (.sl 2 :: (.int .i64 :: (.int .i64 :: (anyN 26 []))))))))), [(0, .mix 0 53 [.sl 1, .sl 2]), (384, .rows 2 3 (.int .i64)), (2, .rows 0 2 (.int .i64)), (1, .rows 0 25 .pt)], []⟩
def h40a_p3 : PcS := loopS [.int, .int, .rows (.int .i64), .rows (.int .i64), .rows .pt] [0]
abbrev h40a_x {α : Type} (G3 : T28 α) : Nat → Ctx α := ctxS M eqs jt0 [] [lpT 3 h40a_t3 h40a_p3 R14 G3]
def h40a_b3 {α : Type} (G3 : T28 α) (k : Nat) (x : Int) (x1 : Int) (out : List Int) (x2 : List Int) (b_ : List (Int × Int)) (b0 : Int → Int → List Int → List Int → (List (Int × Int)) → Option α) (r0 : List Int → Option α) : Option α :=
  bif decide (x1 < x) then
    bif (decide (0 ≤ x1) && decide (x1 < (((List.length x2) : Nat) : Int))) then
      (x2[x1.toNat]?).bind fun e_ =>
      bif decide (x1 = 0) then
        bif decide (((List.length out) + 1) ≤ big) then
          G3 k x (w64 (x1 + 1)) (out ++ [x1]) x2 b_ b0 r0
        else
          none
      else
      bif decide (x1 = (w64 ((((List.length x2) : Nat) : Int) - 1))) then
        bif decide (((List.length out) + 1) ≤ big) then
          G3 k x (w64 (x1 + 1)) (out ++ [x1]) x2 b_ b0 r0
        else
          none
      else
      bif decide (2 < e_) then
        bif decide (((List.length out) + 1) ≤ big) then
          G3 k x (w64 (x1 + 1)) (out ++ [x1]) x2 b_ b0 r0
        else
          none
      else
        G3 k x (w64 (x1 + 1)) out x2 b_ b0 r0
    else
      none
  else
    b0 x x1 out x2 b_
theorem h40a_g3 {α : Type} (G3 : T28 α) (n : Nat) : GenL (α := α) Try.prog Try.f40 S30 (h40a_x G3 n) 3 h40a_t3 h40a_p3 n G3 (h40a_b3 G3) := by intro _ _ _ _ _ _ _; kernel_rfl
def h40a_b {α : Type} (G3 : T28 α) (k : Nat) (s : List (Int × Int)) (s1 : List Int) (r0 : List Int → Option α) : Option α :=
  G3 k (((List.length s1) : Nat) : Int) 0 [] s1 s
    (fun _ _ out1 _ _ =>
      r0 out1)
    r0
theorem h40a_g {α : Type} (G3 : T28 α) (n : Nat) : GenF (α := α) Try.prog Try.f40 S30 (h40a_x G3 n) n (h40a_b G3) := by intro _ _ _; kernel_rfl
theorem h40a_good {α : Type} : ∀ n, GoodFn (α := α) Try.prog 40 (byShape S30.sh (callS S30 impl_sail_vertices_0P n)) := good_of Try.func40 (by kernel_rfl) (by kernel_rfl) (by kernel_rfl) eqs_ok (fun n => h40a_g impl_sail_vertices_0P_l3 n) (by delta h40a_b impl_sail_vertices_0P; rfl) allN (allC (loop_fine (by kernel_rfl) (fun n => by delta h40a_b3; funext _ _ _ _ _ _ _; exact (impl_sail_vertices_0P_l3.eq_2 ..).symm) (fun n => h40a_g3 impl_sail_vertices_0P_l3 n)) allN)

/-! loop.example/g01297/impl.SailVertices -/
def h12_t6 : Tpl := ⟨(anyN 6 (.ptr 898 0 0 :: (.any :: (.sl 1280 :: (anyN 13 (.sl 1408 :: (.int .i64 :: (.int .i64 :: (anyN 15 []))))))))), [(898, .mix 2 53 [.sl 896, .sl 897]), (1280, .rows 2 25 .pt), (1408, .rows 2 3 (.int .i64)), (896, .rows 2 25 .pt), (897, .rows 2 2 (.int .i64))], []⟩
def h12_p6 : PcS := loopS [.int, .int, .rows .pt, .rows (.int .i64), .rows .pt, .rows (.int .i64)] [0]
abbrev h12_x {α : Type} (F0 : T24 α) (F1 : T29 α) (F2 : T30 α) (G6 : T31 α) : Nat → Ctx α := ctxS M eqs jt0 [⟨34, S23, F0⟩, ⟨40, S29, F1⟩, ⟨40, S30, F2⟩] [lpT 6 h12_t6 h12_p6 R9 G6]
def h12_b6 {α : Type} (G6 : T31 α) (k : Nat) (x : Int) (x1 : Int) (out : List (Int × Int)) (x2 : List Int) (b_2 : List (Int × Int)) (b_3 : List Int) (b0 : Int → Int → (List (Int × Int)) → List Int → (List (Int × Int)) → List Int → Option α) (r0 : Int → Option α) (r1 : (List (Int × Int)) → Int → Option α) : Option α :=
  bif decide (x1 < x) then
    bif (decide (0 ≤ x1) && decide (x1 < (((List.length x2) : Nat) : Int))) then
      (x2[x1.toNat]?).bind fun e_ =>
      bif (decide (0 ≤ e_) && decide (e_ < (((List.length b_2) : Nat) : Int))) then
        (b_2[e_.toNat]?).bind fun e_1 =>
        bif decide (((List.length out) + 1) ≤ big) then
          G6 k x (w64 (x1 + 1)) (out ++ [(e_1.1, e_1.2)]) x2 b_2 b_3 b0 r0 r1
        else
          none
      else
        none
    else
      none
  else
    b0 x x1 out x2 b_2 b_3
theorem h12_g6 {α : Type} (F0 : T24 α) (F1 : T29 α) (F2 : T30 α) (G6 : T31 α) (n : Nat) : GenL (α := α) Try.prog Try.f12 S24 (h12_x F0 F1 F2 G6 n) 6 h12_t6 h12_p6 n G6 (h12_b6 G6) := by intro _ _ _ _ _ _ _ _; kernel_rfl
def h12_b {α : Type} (F0 : T24 α) (F1 : T29 α) (F2 : T30 α) (G6 : T31 α) (k : Nat) (a : Int) (a1 : Int) (b_ : Int) (b_1 : Int) (r0 : Int → Option α) (r1 : (List (Int × Int)) → Int → Option α) : Option α :=
  F0 k a a1 b_ b_1
    (fun v =>
      bif (!decide (v = 0)) then
        r0 v
      else
        F1 k)
    (fun v1 v2 v3 =>
      bif (!decide (v3 = 0)) then
        r0 v3
      else
        F2 k v1 v2 fun v4 =>
        G6 k (((List.length v4) : Nat) : Int) 0 [] v4 v1 v2
          (fun _ _ out1 _ _ _ =>
            r1 out1 0)
          r0 r1)
theorem h12_g {α : Type} (F0 : T24 α) (F1 : T29 α) (F2 : T30 α) (G6 : T31 α) (n : Nat) : GenF (α := α) Try.prog Try.f12 S24 (h12_x F0 F1 F2 G6 n) n (h12_b F0 F1 F2 G6) := by intro _ _ _ _ _; kernel_rfl
theorem h12_good {α : Type} : ∀ n, GoodFn (α := α) Try.prog 12 (byShape S24.sh (callS S24 impl_SailVertices n)) := good_of Try.func12 (by kernel_rfl) (by kernel_rfl) (by kernel_rfl) eqs_ok (fun n => h12_g impl_angleSail impl_sail_vertices_0Z impl_sail_vertices_0P impl_SailVertices_l6 n) (by delta h12_b impl_SailVertices; rfl) (allC h34_good (allC h40_good (allC h40a_good allN))) (allC (loop_fine (by kernel_rfl) (fun n => by delta h12_b6; funext _ _ _ _ _ _ _ _ _; exact (impl_SailVertices_l6.eq_2 ..).symm) (fun n => h12_g6 impl_angleSail impl_sail_vertices_0Z impl_sail_vertices_0P impl_SailVertices_l6 n)) allN)

/-! (*loop.example/g01297/impl.sail).sequence -/
abbrev h62_x {α : Type} (F0 : T29 α) : Nat → Ctx α := ctxS M eqs jt0 [⟨40, S29, F0⟩] []
def h62_b {α : Type} (F0 : T29 α) (k : Nat) : Option α :=
  F0 k
theorem h62_g {α : Type} (F0 : T29 α) (n : Nat) : GenF (α := α) Try.prog Try.f62 S29 (h62_x F0 n) n (h62_b F0) := by intro _; kernel_rfl
theorem h62_good {α : Type} : ∀ n, GoodFn (α := α) Try.prog 62 (byShape S29.sh (callS S29 impl_sail_sequence_0Z n)) := good_of Try.func62 (by kernel_rfl) (by kernel_rfl) (by kernel_rfl) eqs_ok (fun n => h62_g impl_sail_vertices_0Z n) (by delta h62_b impl_sail_sequence_0Z; rfl) (allC h40_good allN) allN

/-! (*loop.example/g01297/impl.sail).sequence -/
def h62a_t3 : Tpl := ⟨(.ptr 0 0 0 :: (.any :: (.any :: (.sl 384 :: (.sl 512 :: (.int .i64 :: (anyN 40 []))))))), [(0, .mix 0 53 [.sl 1, .sl 2]), (384, .rows 2 2 (.int .i64)), (512, .rows 2 3 (.int .i64)), (1, .rows 0 25 .pt), (2, .rows 0 2 (.int .i64))], []⟩
def h62a_p3 : PcS := loopS [.int, .rows (.int .i64), .rows (.int .i64), .rows .pt, .rows (.int .i64)] [0]
abbrev h62a_x {α : Type} (F0 : T30 α) (G3 : T32 α) : Nat → Ctx α := ctxS M eqs jt0 [⟨40, S30, F0⟩] [lpT 3 h62a_t3 h62a_p3 R15 G3]
def h62a_b3 {α : Type} (G3 : T32 α) (k : Nat) (k_ : Int) (out : List Int) (list : List Int) (b_ : List (Int × Int)) (b_1 : List Int) (b0 : Int → List Int → List Int → (List (Int × Int)) → List Int → Option α) (r0 : List Int → Option α) : Option α :=
  bif decide (k_ < (((List.length list) : Nat) : Int)) then
    bif decide (1 < k_) then
      bif (decide (0 ≤ (w64 (k_ - 1))) && decide ((w64 (k_ - 1)) < (((List.length list) : Nat) : Int))) then
        (list[(w64 (k_ - 1)).toNat]?).bind fun e_ =>
        bif (decide (0 ≤ e_) && decide (e_ < (((List.length b_1) : Nat) : Int))) then
          (b_1[e_.toNat]?).bind fun e_1 =>
          bif decide (((List.length out) + 1) ≤ big) then
            bif (decide (0 ≤ k_) && decide (k_ < (((List.length list) : Nat) : Int))) then
              (list[k_.toNat]?).bind fun e_2 =>
              bif (decide (0 ≤ (w64 (k_ - 1))) && decide ((w64 (k_ - 1)) < (((List.length list) : Nat) : Int))) then
                (list[(w64 (k_ - 1)).toNat]?).bind fun e_3 =>
                bif decide (((List.length (out ++ [(w64 (e_1 - 2))])) + 1) ≤ big) then
                  G3 k (w64 (k_ + 1)) ((out ++ [(w64 (e_1 - 2))]) ++ [(w64 (e_2 - e_3))]) list b_ b_1 b0 r0
                else
                  none
              else
                none
            else
              none
          else
            none
        else
          none
      else
        none
    else
    bif (decide (0 ≤ k_) && decide (k_ < (((List.length list) : Nat) : Int))) then
      (list[k_.toNat]?).bind fun e_4 =>
      bif (decide (0 ≤ (w64 (k_ - 1))) && decide ((w64 (k_ - 1)) < (((List.length list) : Nat) : Int))) then
        (list[(w64 (k_ - 1)).toNat]?).bind fun e_5 =>
        bif decide (((List.length out) + 1) ≤ big) then
          G3 k (w64 (k_ + 1)) (out ++ [(w64 (e_4 - e_5))]) list b_ b_1 b0 r0
        else
          none
      else
        none
    else
      none
  else
    b0 k_ out list b_ b_1
theorem h62a_g3 {α : Type} (F0 : T30 α) (G3 : T32 α) (n : Nat) : GenL (α := α) Try.prog Try.f62 S31 (h62a_x F0 G3 n) 3 h62a_t3 h62a_p3 n G3 (h62a_b3 G3) := by intro _ _ _ _ _ _ _; kernel_rfl
def h62a_b {α : Type} (F0 : T30 α) (G3 : T32 α) (k : Nat) (s : List (Int × Int)) (s1 : List Int) (r0 : List Int → Option α) : Option α :=
  F0 k s s1 fun v =>
  G3 k 1 [] v s s1
    (fun _ out1 _ _ _ =>
      r0 out1)
    r0
theorem h62a_g {α : Type} (F0 : T30 α) (G3 : T32 α) (n : Nat) : GenF (α := α) Try.prog Try.f62 S31 (h62a_x F0 G3 n) n (h62a_b F0 G3) := by intro _ _ _; kernel_rfl
theorem h62a_good {α : Type} : ∀ n, GoodFn (α := α) Try.prog 62 (byShape S31.sh (callS S31 impl_sail_sequence_0P n)) := good_of Try.func62 (by kernel_rfl) (by kernel_rfl) (by kernel_rfl) eqs_ok (fun n => h62a_g impl_sail_vertices_0P impl_sail_sequence_0P_l3 n) (by delta h62a_b impl_sail_sequence_0P; rfl) (allC h40a_good allN) (allC (loop_fine (by kernel_rfl) (fun n => by delta h62a_b3; funext _ _ _ _ _ _ _; exact (impl_sail_sequence_0P_l3.eq_2 ..).symm) (fun n => h62a_g3 impl_sail_vertices_0P impl_sail_sequence_0P_l3 n)) allN)

/-! loop.example/g01297/impl.SequenceOf -/
abbrev h41_x {α : Type} (F0 : T24 α) (F1 : T29 α) (F2 : T30 α) : Nat → Ctx α := ctxS M eqs jt0 [⟨34, S23, F0⟩, ⟨62, S29, F1⟩, ⟨62, S31, F2⟩] []
def h41_b {α : Type} (F0 : T24 α) (F1 : T29 α) (F2 : T30 α) (k : Nat) (a : Int) (a1 : Int) (b_ : Int) (b_1 : Int) (r0 : Int → Option α) (r1 : List Int → Int → Option α) : Option α :=
  F0 k a a1 b_ b_1
    (fun v =>
      bif (!decide (v = 0)) then
        r0 v
      else
        F1 k)
    (fun v1 v2 v3 =>
      bif (!decide (v3 = 0)) then
        r0 v3
      else
        F2 k v1 v2 fun v4 =>
        r1 v4 0)
theorem h41_g {α : Type} (F0 : T24 α) (F1 : T29 α) (F2 : T30 α) (n : Nat) : GenF (α := α) Try.prog Try.f41 S32 (h41_x F0 F1 F2 n) n (h41_b F0 F1 F2) := by intro _ _ _ _ _; kernel_rfl
theorem h41_good {α : Type} : ∀ n, GoodFn (α := α) Try.prog 41 (byShape S32.sh (callS S32 impl_SequenceOf n)) := good_of Try.func41 (by kernel_rfl) (by kernel_rfl) (by kernel_rfl) eqs_ok (fun n => h41_g impl_angleSail impl_sail_sequence_0Z impl_sail_sequence_0P n) (by delta h41_b impl_SequenceOf; rfl) (allC h34_good (allC h62_good (allC h62a_good allN))) allN

/-! loop.example/g01297/impl.every -/
def h42_t3 : Tpl := ⟨(.nilsl :: (anyN 4 (.sl 448 :: (.int .i64 :: (anyN 16 []))))), [(448, .rows 2 2 (.int .i64))], []⟩
def h42_p3 : PcS := loopS [.int, .rows (.int .i64)] [0]
abbrev h42_x {α : Type} (G3 : T33 α) : Nat → Ctx α := ctxS M eqs jt0 [] [lpT 3 h42_t3 h42_p3 R15 G3]
def h42_b3 {α : Type}  (_ : Nat) (i : Int) (out : List Int) (b0 : Int → List Int → Option α) (_ : List Int → Option α) : Option α :=
  bif decide (i < 0) then
    none
  else
    b0 i out
theorem h42_g3 {α : Type} (G3 : T33 α) (n : Nat) : GenL (α := α) Try.prog Try.f42 S33 (h42_x G3 n) 3 h42_t3 h42_p3 n G3 (h42_b3) := by intro _ _ _ _; kernel_rfl
def h42_b {α : Type} (G3 : T33 α) (k : Nat) (from_ : Int) (r0 : List Int → Option α) : Option α :=
  G3 k from_ []
    (fun _ out1 =>
      r0 out1)
    r0
theorem h42_g {α : Type} (G3 : T33 α) (n : Nat) : GenF (α := α) Try.prog Try.f42 S33 (h42_x G3 n) n (h42_b G3) := by intro _ _; kernel_rfl
theorem h42_good {α : Type} : ∀ n, GoodFn (α := α) Try.prog 42 (byShape S33.sh (callS S33 impl_every_0N n)) := good_of Try.func42 (by kernel_rfl) (by kernel_rfl) (by kernel_rfl) eqs_ok (fun n => h42_g impl_every_0N_l3 n) (by delta h42_b impl_every_0N; rfl) allN (allC (loop_fine (by kernel_rfl) (fun n => by delta h42_b3; funext _ _ _ _; exact (impl_every_0N_l3.eq_2 ..).symm) (fun n => h42_g3 impl_every_0N_l3 n)) allN)

/-! loop.example/g01297/impl.every -/
def h42a_t3 : Tpl := ⟨(.sl 0 :: (anyN 4 (.sl 448 :: (.int .i64 :: (anyN 16 []))))), [(0, .rows 0 2 (.int .i64)), (448, .rows 2 2 (.int .i64))], []⟩
def h42a_p3 : PcS := loopS [.int, .rows (.int .i64), .rows (.int .i64)] [0]
abbrev h42a_x {α : Type} (G3 : T34 α) : Nat → Ctx α := ctxS M eqs jt0 [] [lpT 3 h42a_t3 h42a_p3 R15 G3]
def h42a_b3 {α : Type} (G3 : T34 α) (k : Nat) (i : Int) (list1 : List Int) (out : List Int) (b0 : Int → List Int → List Int → Option α) (r0 : List Int → Option α) : Option α :=
  bif decide (i < (((List.length list1) : Nat) : Int)) then
    bif (decide (0 ≤ i) && decide (i < (((List.length list1) : Nat) : Int))) then
      (list1[i.toNat]?).bind fun e_ =>
      bif decide (((List.length out) + 1) ≤ big) then
        G3 k (w64 (i + 2)) list1 (out ++ [e_]) b0 r0
      else
        none
    else
      none
  else
    b0 i list1 out
theorem h42a_g3 {α : Type} (G3 : T34 α) (n : Nat) : GenL (α := α) Try.prog Try.f42 S34 (h42a_x G3 n) 3 h42a_t3 h42a_p3 n G3 (h42a_b3 G3) := by intro _ _ _ _ _; kernel_rfl
def h42a_b {α : Type} (G3 : T34 α) (k : Nat) (list : List Int) (from_ : Int) (r0 : List Int → Option α) : Option α :=
  G3 k from_ list []
    (fun _ _ out1 =>
      r0 out1)
    r0
theorem h42a_g {α : Type} (G3 : T34 α) (n : Nat) : GenF (α := α) Try.prog Try.f42 S34 (h42a_x G3 n) n (h42a_b G3) := by intro _ _ _; kernel_rfl
theorem h42a_good {α : Type} : ∀ n, GoodFn (α := α) Try.prog 42 (byShape S34.sh (callS S34 impl_every n)) := good_of Try.func42 (by kernel_rfl) (by kernel_rfl) (by kernel_rfl) eqs_ok (fun n => h42a_g impl_every_l3 n) (by delta h42a_b impl_every; rfl) allN (allC (loop_fine (by kernel_rfl) (fun n => by delta h42a_b3; funext _ _ _ _ _; exact (impl_every_l3.eq_2 ..).symm) (fun n => h42a_g3 impl_every_l3 n)) allN)

/-! loop.example/g01297/impl.SailLengths -/
abbrev h13_x {α : Type} (F0 : T35 α) (F1 : T36 α) (F2 : T37 α) : Nat → Ctx α := ctxS M eqs jt0 [⟨41, S32, F0⟩, ⟨42, S33, F1⟩, ⟨42, S34, F2⟩] []
def h13_b {α : Type} (F0 : T35 α) (F1 : T36 α) (F2 : T37 α) (k : Nat) (a : Int) (a1 : Int) (b_ : Int) (b_1 : Int) (r0 : Int → Option α) (r1 : List Int → Int → Option α) : Option α :=
  F0 k a a1 b_ b_1
    (fun v =>
      bif (!decide (v = 0)) then
        r0 v
      else
        F1 k 0 fun v1 =>
        r1 v1 0)
    (fun v2 v3 =>
      bif (!decide (v3 = 0)) then
        r0 v3
      else
        F2 k v2 0 fun v4 =>
        r1 v4 0)
theorem h13_g {α : Type} (F0 : T35 α) (F1 : T36 α) (F2 : T37 α) (n : Nat) : GenF (α := α) Try.prog Try.f13 S32 (h13_x F0 F1 F2 n) n (h13_b F0 F1 F2) := by intro _ _ _ _ _; kernel_rfl
theorem h13_good {α : Type} : ∀ n, GoodFn (α := α) Try.prog 13 (byShape S32.sh (callS S32 impl_SailLengths n)) := good_of Try.func13 (by kernel_rfl) (by kernel_rfl) (by kernel_rfl) eqs_ok (fun n => h13_g impl_SequenceOf impl_every_0N impl_every n) (by delta h13_b impl_SailLengths; rfl) (allC h41_good (allC h42_good (allC h42a_good allN))) allN

/-! loop.example/g01297/spec.l03With -/
abbrev h47_x {α : Type} (F0 : T11 α) (F1 : T12 α) (F2 : T7 α) (F3 : T4 α) (F4 : T1 α) (F5 : T9 α) (F6 : T10 α) (F7 : T24 α) : Nat → Ctx α := ctxS M eqs jt0 [⟨33, S1, F0⟩, ⟨32, S11, F1⟩, ⟨54, S3, F2⟩, ⟨66, S4, F3⟩, ⟨55, S2, F4⟩, ⟨57, S9, F5⟩, ⟨56, S10, F6⟩, ⟨35, S26, F7⟩] []
def h47_b {α : Type} (F0 : T11 α) (F1 : T12 α) (F2 : T7 α) (F3 : T4 α) (F4 : T1 α) (F5 : T9 α) (F6 : T10 α) (F7 : T24 α) (k : Nat) (code : List Int) (r0 : Int → Int → Int → Int → Int → Int → Option α) : Option α :=
  F0 k code fun v v1 =>
  F1 k code v v1 fun v2 v3 v4 v5 v6 v7 =>
  F2 k code v6 v7 [2, 6, 20] fun v8 v9 v10 =>
  F3 k code v9 v10 v8 fun v11 v12 v13 v14 =>
  F4 k code v13 v14 4 fun v15 v16 v17 =>
  bif decide (v15 = 0) then
    F4 k code v16 v17 4 fun v18 v19 v20 =>
    F5 k 0 0 v2 v3 v18 fun v21 v22 =>
    F4 k code v19 v20 4 fun v23 v24 v25 =>
    F5 k v21 v22 v4 v5 v23 fun v26 v27 =>
    F6 k code v24 v25 v26 v27 fun v28 v29 _ _ =>
    r0 v2 v3 v4 v5 v28 v29
  else
  bif decide (v15 = 1) then
    F7 k v2 v3 v4 v5
      (fun v32 =>
        bif decide (v32 = 0) then
          F4 k code v16 v17 0 fun _ _ _ =>
          none
        else
          F6 k code v16 v17 v11 v12 fun v36 v37 _ _ =>
          r0 v2 v3 v4 v5 v36 v37)
      (fun v40 _ v42 =>
        bif decide (v42 = 0) then
          F4 k code v16 v17 (((List.length v40) : Nat) : Int) fun v43 v44 v45 =>
          bif (decide (0 ≤ v43) && decide (v43 < (((List.length v40) : Nat) : Int))) then
            (v40[v43.toNat]?).bind fun e_ =>
            F4 k code v44 v45 2 fun v46 v47 v48 =>
            bif decide (v46 = 0) then
              bif (decide (0 ≤ (min (w64 (v43 + 1)) (w64 ((((List.length v40) : Nat) : Int) - 1)))) && decide ((min (w64 (v43 + 1)) (w64 ((((List.length v40) : Nat) : Int) - 1))) < (((List.length v40) : Nat) : Int))) then
                (v40[(min (w64 (v43 + 1)) (w64 ((((List.length v40) : Nat) : Int) - 1))).toNat]?).bind fun e_1 =>
                F4 k code v47 v48 3 fun v49 v50 v51 =>
                F5 k 0 0 e_.1 e_.2 (w64 (1 + v49)) fun v52 v53 =>
                F4 k code v50 v51 3 fun v54 v55 v56 =>
                F5 k v52 v53 e_1.1 e_1.2 v54 fun v57 v58 =>
                F6 k code v55 v56 v57 v58 fun v59 v60 _ _ =>
                r0 v2 v3 v4 v5 v59 v60
              else
                none
            else
              F6 k code v47 v48 e_.1 e_.2 fun v63 v64 _ _ =>
              r0 v2 v3 v4 v5 v63 v64
          else
            none
        else
          F6 k code v16 v17 v11 v12 fun v67 v68 _ _ =>
          r0 v2 v3 v4 v5 v67 v68)
  else
    F6 k code v16 v17 v11 v12 fun v71 v72 _ _ =>
    r0 v2 v3 v4 v5 v71 v72
theorem h47_g {α : Type} (F0 : T11 α) (F1 : T12 α) (F2 : T7 α) (F3 : T4 α) (F4 : T1 α) (F5 : T9 α) (F6 : T10 α) (F7 : T24 α) (n : Nat) : GenF (α := α) Try.prog Try.f47 S35 (h47_x F0 F1 F2 F3 F4 F5 F6 F7 n) n (h47_b F0 F1 F2 F3 F4 F5 F6 F7) := by intro _ _; kernel_rfl
theorem h47_good {α : Type} : ∀ n, GoodFn (α := α) Try.prog 47 (byShape S35.sh (callS S35 spec_l03With n)) := good_of Try.func47 (by kernel_rfl) (by kernel_rfl) (by kernel_rfl) eqs_ok (fun n => h47_g spec_l01From spec_l03Draw spec_l01Pick spec_l01DrawPoint spec_l01Next spec_l01Plus spec_l01Bad spec_l03Code n) (by delta h47_b spec_l03With; rfl) (allC h33_good (allC h32_good (allC h54_good (allC h66_good (allC h55_good (allC h57_good (allC h56_good (allC h35_good allN)))))))) allN

/-! loop.example/g01297/spec.DrawSplitPoint -/
abbrev h18_x {α : Type} (F0 : T38 α) : Nat → Ctx α := ctxS M eqs jt0 [⟨47, S35, F0⟩] []
def h18_b {α : Type} (F0 : T38 α) (k : Nat) (code : List Int) (r0 : Int → Int → Int → Int → Int → Int → Option α) : Option α :=
  F0 k code fun v v1 v2 v3 v4 v5 =>
  r0 v v1 v2 v3 v4 v5
theorem h18_g {α : Type} (F0 : T38 α) (n : Nat) : GenF (α := α) Try.prog Try.f18 S35 (h18_x F0 n) n (h18_b F0) := by intro _ _; kernel_rfl
theorem h18_good {α : Type} : ∀ n, GoodFn (α := α) Try.prog 18 (byShape S35.sh (callS S35 spec_DrawSplitPoint n)) := good_of Try.func18 (by kernel_rfl) (by kernel_rfl) (by kernel_rfl) eqs_ok (fun n => h18_g spec_l03With n) (by delta h18_b spec_DrawSplitPoint; rfl) (allC h47_good allN) allN

/-! loop.example/g01297/impl.inAngle -/
abbrev h44_x {α : Type} (F0 : T6 α) : Nat → Ctx α := ctxS M eqs jt0 [⟨38, S7, F0⟩] []
def h44_b {α : Type} (F0 : T6 α) (k : Nat) (a : Int) (a1 : Int) (b_ : Int) (b_1 : Int) (c : Int) (c1 : Int) (r0 : Bool → Option α) : Option α :=
  F0 k a a1 c c1 fun v =>
  bif decide (0 ≤ v) then
    F0 k c c1 b_ b_1 fun v1 =>
    r0 (decide (0 ≤ v1))
  else
    r0 false
theorem h44_g {α : Type} (F0 : T6 α) (n : Nat) : GenF (α := α) Try.prog Try.f44 S36 (h44_x F0 n) n (h44_b F0) := by intro _ _ _ _ _ _ _; kernel_rfl
theorem h44_good {α : Type} : ∀ n, GoodFn (α := α) Try.prog 44 (byShape S36.sh (callS S36 impl_inAngle n)) := good_of Try.func44 (by kernel_rfl) (by kernel_rfl) (by kernel_rfl) eqs_ok (fun n => h44_g impl_det n) (by delta h44_b impl_inAngle; rfl) (allC h38_good allN) allN

/-! loop.example/g01297/impl.SplitPoint -/
def h19_t10 : Tpl := ⟨(anyN 5 (.ptr 320 0 0 :: (.any :: (.any :: (.ptr 2434 0 0 :: (.any :: (.int .i64 :: (anyN 40 (.int .i64 :: (.int .i64 :: (anyN 41 []))))))))))), [(320, .ints 2 25 .i64 2), (2434, .mix 2 53 [.sl 2432, .sl 2433]), (2432, .rows 2 25 .pt), (2433, .rows 2 2 (.int .i64))], []⟩
def h19_p10 : PcS := loopS [.int, .int, .int, .int, .int, .rows .pt, .rows (.int .i64)] [1]
abbrev h19_x {α : Type} (F0 : T23 α) (F1 : T15 α) (F2 : T39 α) (F3 : T24 α) (F4 : T6 α) (G10 : T40 α) : Nat → Ctx α := ctxS M eqs jt0 [⟨9, S21, F0⟩, ⟨43, S15, F1⟩, ⟨44, S36, F2⟩, ⟨48, S23, F3⟩, ⟨38, S7, F4⟩] [lpT 10 h19_t10 h19_p10 R16 G10]
def h19_b10 {α : Type} (F4 : T6 α) (G10 : T40 α) (k : Nat) (last : Int) (x : Int) (x1 : Int) (c2 : Int) (c3 : Int) (b_2 : List (Int × Int)) (b_3 : List Int) (b1 : Int → Int → Int → Int → Int → (List (Int × Int)) → List Int → Option α) (r0 : Int → Option α) (r1 : List Int → Int → Option α) : Option α :=
  bif decide (x1 < x) then
    bif (decide (0 ≤ (w64 (x1 + 1))) && decide ((w64 (x1 + 1)) < (((List.length b_2) : Nat) : Int))) then
      (b_2[(w64 (x1 + 1)).toNat]?).bind fun e_ =>
      bif (decide (0 ≤ x1) && decide (x1 < (((List.length b_2) : Nat) : Int))) then
        (b_2[x1.toNat]?).bind fun e_1 =>
        F4 k c2 c3 e_.1 e_.2 fun v7 =>
        F4 k e_1.1 e_1.2 c2 c3 fun v8 =>
        bif decide (0 ≤ v8) then
          bif decide (1 ≤ v7) then
            r1 [x1, v7, v8] 0
          else
          bif decide (v7 = 0) then
            bif decide (x1 = last) then
              r1 [x1, v7, v8] 0
            else
              G10 k last x (w64 (x1 + 1)) c2 c3 b_2 b_3 b1 r0 r1
          else
            G10 k last x (w64 (x1 + 1)) c2 c3 b_2 b_3 b1 r0 r1
        else
          G10 k last x (w64 (x1 + 1)) c2 c3 b_2 b_3 b1 r0 r1
      else
        none
    else
      none
  else
    b1 last x x1 c2 c3 b_2 b_3
theorem h19_g10 {α : Type} (F0 : T23 α) (F1 : T15 α) (F2 : T39 α) (F3 : T24 α) (F4 : T6 α) (G10 : T40 α) (n : Nat) : GenL (α := α) Try.prog Try.f19 S37 (h19_x F0 F1 F2 F3 F4 G10 n) 10 h19_t10 h19_p10 n G10 (h19_b10 F4 G10) := by intro _ _ _ _ _ _ _ _ _; kernel_rfl
def h19_b {α : Type} (F0 : T23 α) (F1 : T15 α) (F2 : T39 α) (F3 : T24 α) (G10 : T40 α) (k : Nat) (a : Int) (a1 : Int) (b_ : Int) (b_1 : Int) (c : Int) (c1 : Int) (r0 : Int → Option α) (r1 : List Int → Int → Option α) : Option α :=
  F0 k a a1 b_ b_1 fun v =>
  bif (!v) then
    r0 1
  else
    F1 k c c1 fun v1 =>
    bif (!v1) then
      r0 1
    else
      F2 k a a1 b_ b_1 c c1 fun v2 =>
      bif (!v2) then
        r0 4
      else
      bif (decide (c = 0) && decide (c1 = 0)) then
        r0 4
      else
        F3 k a a1 b_ b_1
          (fun v3 =>
            bif (!decide (v3 = 0)) then
              r0 v3
            else
              none)
          (fun v4 v5 v6 =>
            bif (!decide (v6 = 0)) then
              r0 v6
            else
              G10 k (w64 ((((List.length v4) : Nat) : Int) - 2)) (w64 ((w64 ((((List.length v4) : Nat) : Int) - 2)) + 1)) 0 c c1 v4 v5
                (fun _ _ _ _ _ _ _ =>
                  r0 4)
                r0 r1)
theorem h19_g {α : Type} (F0 : T23 α) (F1 : T15 α) (F2 : T39 α) (F3 : T24 α) (F4 : T6 α) (G10 : T40 α) (n : Nat) : GenF (α := α) Try.prog Try.f19 S37 (h19_x F0 F1 F2 F3 F4 G10 n) n (h19_b F0 F1 F2 F3 G10) := by intro _ _ _ _ _ _ _; kernel_rfl
theorem h19_good {α : Type} : ∀ n, GoodFn (α := α) Try.prog 19 (byShape S37.sh (callS S37 impl_SplitPoint n)) := good_of Try.func19 (by kernel_rfl) (by kernel_rfl) (by kernel_rfl) eqs_ok (fun n => h19_g impl_IsAngle impl_IsPoint impl_inAngle impl_sailOf impl_det impl_SplitPoint_l10 n) (by delta h19_b impl_SplitPoint; rfl) (allC h9_good (allC h43_good (allC h44_good (allC h48_good (allC h38_good allN))))) (allC (loop_fine (by kernel_rfl) (fun n => by delta h19_b10; funext _ _ _ _ _ _ _ _ _ _; exact (impl_SplitPoint_l10.eq_2 ..).symm) (fun n => h19_g10 impl_IsAngle impl_IsPoint impl_inAngle impl_sailOf impl_det impl_SplitPoint_l10 n)) allN)

/-! loop.example/g01297/spec.l03Inside -/
abbrev h50_x {α : Type} (F0 : T6 α) : Nat → Ctx α := ctxS M eqs jt0 [⟨51, S7, F0⟩] []
def h50_b {α : Type} (F0 : T6 α) (k : Nat) (a : Int) (a1 : Int) (b_ : Int) (b_1 : Int) (c : Int) (c1 : Int) (r0 : Bool → Option α) : Option α :=
  F0 k a a1 c c1 fun v =>
  bif decide (0 ≤ v) then
    F0 k c c1 b_ b_1 fun v1 =>
    r0 (decide (0 ≤ v1))
  else
    r0 false
theorem h50_g {α : Type} (F0 : T6 α) (n : Nat) : GenF (α := α) Try.prog Try.f50 S36 (h50_x F0 n) n (h50_b F0) := by intro _ _ _ _ _ _ _; kernel_rfl
theorem h50_good {α : Type} : ∀ n, GoodFn (α := α) Try.prog 50 (byShape S36.sh (callS S36 spec_l03Inside n)) := good_of Try.func50 (by kernel_rfl) (by kernel_rfl) (by kernel_rfl) eqs_ok (fun n => h50_g spec_l01Det n) (by delta h50_b spec_l03Inside; rfl) (allC h51_good allN) allN

/-! loop.example/g01297/spec.SplitPoint -/
def h20_t9 : Tpl := ⟨(anyN 5 (.ptr 320 0 0 :: (.any :: (.any :: (.sl 2368 :: (.any :: (.any :: (.int .i64 :: (anyN 80 []))))))))), [(320, .ints 2 25 .i64 2), (2368, .rows 2 25 .pt)], [(8, 2368, 25, .pt)]⟩
def h20_p9 : PcS := loopS [.int, .int, .int, .rows .pt] [1]
abbrev h20_x {α : Type} (F0 : T23 α) (F1 : T15 α) (F2 : T39 α) (F3 : T24 α) (F4 : T6 α) (G9 : T41 α) : Nat → Ctx α := ctxS M eqs jt0 [⟨39, S21, F0⟩, ⟨49, S15, F1⟩, ⟨50, S36, F2⟩, ⟨35, S26, F3⟩, ⟨51, S7, F4⟩] [lpT 9 h20_t9 h20_p9 R16 G9]
def h20_b9 {α : Type} (F4 : T6 α) (G9 : T41 α) (k : Nat) (i : Int) (c2 : Int) (c3 : Int) (points : List (Int × Int)) (b1 : Int → Int → Int → (List (Int × Int)) → Option α) (r0 : Int → Option α) (r1 : List Int → Int → Option α) : Option α :=
  bif decide ((w64 (i + 2)) < (((List.length points) : Nat) : Int)) then
    bif (decide (0 ≤ (w64 (i + 1))) && decide ((w64 (i + 1)) < (((List.length points) : Nat) : Int))) then
      (points[(w64 (i + 1)).toNat]?).bind fun e_ =>
      F4 k c2 c3 e_.1 e_.2 fun v4 =>
      bif decide (0 < v4) then
        bif (decide (0 ≤ (w64 (i + 1))) && decide ((w64 (i + 1)) < (((List.length points) : Nat) : Int))) then
          (points[(w64 (i + 1)).toNat]?).bind fun e_1 =>
          bif (decide (0 ≤ i) && decide (i < (((List.length points) : Nat) : Int))) then
            (points[i.toNat]?).bind fun e_2 =>
            F4 k c2 c3 e_1.1 e_1.2 fun v5 =>
            F4 k e_2.1 e_2.2 c2 c3 fun v6 =>
            r1 [i, v5, v6] 0
          else
            none
        else
          none
      else
        G9 k (w64 (i + 1)) c2 c3 points b1 r0 r1
    else
      none
  else
    b1 i c2 c3 points
theorem h20_g9 {α : Type} (F0 : T23 α) (F1 : T15 α) (F2 : T39 α) (F3 : T24 α) (F4 : T6 α) (G9 : T41 α) (n : Nat) : GenL (α := α) Try.prog Try.f20 S37 (h20_x F0 F1 F2 F3 F4 G9 n) 9 h20_t9 h20_p9 n G9 (h20_b9 F4 G9) := by intro _ _ _ _ _ _; kernel_rfl
def h20_b {α : Type} (F0 : T23 α) (F1 : T15 α) (F2 : T39 α) (F3 : T24 α) (F4 : T6 α) (G9 : T41 α) (k : Nat) (a : Int) (a1 : Int) (b_ : Int) (b_1 : Int) (c : Int) (c1 : Int) (r0 : Int → Option α) (r1 : List Int → Int → Option α) : Option α :=
  F0 k a a1 b_ b_1 fun v =>
  bif (!v) then
    r0 1
  else
    F1 k c c1 fun v1 =>
    bif (!v1) then
      r0 1
    else
      F2 k a a1 b_ b_1 c c1 fun v2 =>
      bif (!v2) then
        r0 4
      else
      bif (decide (c = 0) && decide (c1 = 0)) then
        r0 4
      else
        F3 k a a1 b_ b_1
          (fun v3 =>
            bif (!decide (v3 = 0)) then
              r0 v3
            else
              G9 k 0 c c1 []
                (fun _ c4 c5 points1 =>
                  bif (decide (0 ≤ (w64 ((w64 ((((List.length points1) : Nat) : Int) - 2)) + 1))) && decide ((w64 ((w64 ((((List.length points1) : Nat) : Int) - 2)) + 1)) < (((List.length points1) : Nat) : Int))) then
                    (points1[(w64 ((w64 ((((List.length points1) : Nat) : Int) - 2)) + 1)).toNat]?).bind fun e_3 =>
                    bif (decide (0 ≤ (w64 ((((List.length points1) : Nat) : Int) - 2))) && decide ((w64 ((((List.length points1) : Nat) : Int) - 2)) < (((List.length points1) : Nat) : Int))) then
                      (points1[(w64 ((((List.length points1) : Nat) : Int) - 2)).toNat]?).bind fun e_4 =>
                      F4 k c4 c5 e_3.1 e_3.2 fun v7 =>
                      F4 k e_4.1 e_4.2 c4 c5 fun v8 =>
                      r1 [(w64 ((((List.length points1) : Nat) : Int) - 2)), v7, v8] 0
                    else
                      none
                  else
                    none)
                r0 r1)
          (fun v9 _ v11 =>
            bif (!decide (v11 = 0)) then
              r0 v11
            else
              G9 k 0 c c1 v9
                (fun _ c6 c7 points2 =>
                  bif (decide (0 ≤ (w64 ((w64 ((((List.length points2) : Nat) : Int) - 2)) + 1))) && decide ((w64 ((w64 ((((List.length points2) : Nat) : Int) - 2)) + 1)) < (((List.length points2) : Nat) : Int))) then
                    (points2[(w64 ((w64 ((((List.length points2) : Nat) : Int) - 2)) + 1)).toNat]?).bind fun e_5 =>
                    bif (decide (0 ≤ (w64 ((((List.length points2) : Nat) : Int) - 2))) && decide ((w64 ((((List.length points2) : Nat) : Int) - 2)) < (((List.length points2) : Nat) : Int))) then
                      (points2[(w64 ((((List.length points2) : Nat) : Int) - 2)).toNat]?).bind fun e_6 =>
                      F4 k c6 c7 e_5.1 e_5.2 fun v12 =>
                      F4 k e_6.1 e_6.2 c6 c7 fun v13 =>
                      r1 [(w64 ((((List.length points2) : Nat) : Int) - 2)), v12, v13] 0
                    else
                      none
                  else
                    none)
                r0 r1)
theorem h20_g {α : Type} (F0 : T23 α) (F1 : T15 α) (F2 : T39 α) (F3 : T24 α) (F4 : T6 α) (G9 : T41 α) (n : Nat) : GenF (α := α) Try.prog Try.f20 S37 (h20_x F0 F1 F2 F3 F4 G9 n) n (h20_b F0 F1 F2 F3 F4 G9) := by intro _ _ _ _ _ _ _; kernel_rfl
theorem h20_good {α : Type} : ∀ n, GoodFn (α := α) Try.prog 20 (byShape S37.sh (callS S37 spec_SplitPoint n)) := good_of Try.func20 (by kernel_rfl) (by kernel_rfl) (by kernel_rfl) eqs_ok (fun n => h20_g spec_l03Is spec_l01Is spec_l03Inside spec_l03Code spec_l01Det spec_SplitPoint_l9 n) (by delta h20_b spec_SplitPoint; rfl) (allC h39_good (allC h49_good (allC h50_good (allC h35_good (allC h51_good allN))))) (allC (loop_fine (by kernel_rfl) (fun n => by delta h20_b9; funext _ _ _ _ _ _ _; exact (spec_SplitPoint_l9.eq_2 ..).symm) (fun n => h20_g9 spec_l03Is spec_l01Is spec_l03Inside spec_l03Code spec_l01Det spec_SplitPoint_l9 n)) allN)

/-! loop.example/g01297/laws.likeInts -/
abbrev h21_x {α : Type}  : Nat → Ctx α := ctxS M eqs jt0 [] []
def h21_b {α : Type}  (_ : Nat) (r0 : Bool → Option α) : Option α :=
  r0 true
theorem h21_g {α : Type}  (n : Nat) : GenF (α := α) Try.prog Try.f21 S27 (h21_x n) n (h21_b) := by intro _; kernel_rfl
theorem h21_good {α : Type} : ∀ n, GoodFn (α := α) Try.prog 21 (byShape S27.sh (callS S27 laws_likeInts_0N_1N n)) := good_of Try.func21 (by kernel_rfl) (by kernel_rfl) (by kernel_rfl) eqs_ok (fun n => h21_g n) (by delta h21_b laws_likeInts_0N_1N; rfl) allN allN

/-! loop.example/g01297/spec.DrawPlaceOnSail -/
abbrev h22_x {α : Type} (F0 : T38 α) : Nat → Ctx α := ctxS M eqs jt0 [⟨47, S35, F0⟩] []
def h22_b {α : Type} (F0 : T38 α) (k : Nat) (code : List Int) (r0 : Int → Int → Int → Int → Int → Int → Option α) : Option α :=
  F0 k code fun v v1 v2 v3 v4 v5 =>
  r0 v v1 v2 v3 v4 v5
theorem h22_g {α : Type} (F0 : T38 α) (n : Nat) : GenF (α := α) Try.prog Try.f22 S35 (h22_x F0 n) n (h22_b F0) := by intro _ _; kernel_rfl
theorem h22_good {α : Type} : ∀ n, GoodFn (α := α) Try.prog 22 (byShape S35.sh (callS S35 spec_DrawPlaceOnSail n)) := good_of Try.func22 (by kernel_rfl) (by kernel_rfl) (by kernel_rfl) eqs_ok (fun n => h22_g spec_l03With n) (by delta h22_b spec_DrawPlaceOnSail; rfl) (allC h47_good allN) allN

/-! slices.Index[[]loop.example/g01297/impl.Point,loop.example/g01297/impl.Point] -/
def h52_t2 : Tpl := ⟨(.sl 0 :: (.any :: (.any :: (.ptr 192 0 0 :: (.any :: (.any :: (.any :: (.int .i64 :: (.int .i64 :: (anyN 10 [])))))))))), [(0, .rows 0 25 .pt), (192, .ints 2 25 .i64 2)], []⟩
def h52_p2 : PcS := loopS [.int, .int, .rows .pt, .int, .int] [0]
abbrev h52_x {α : Type} (G2 : T42 α) : Nat → Ctx α := ctxS M eqs jt0 [] [lpT 2 h52_t2 h52_p2 R4 G2]
def h52_b2 {α : Type} (G2 : T42 α) (k : Nat) (x : Int) (x1 : Int) (s1 : List (Int × Int)) (v2 : Int) (v3 : Int) (b0 : Int → Int → (List (Int × Int)) → Int → Int → Option α) (r0 : Int → Option α) : Option α :=
  bif decide (x1 < x) then
    bif (decide (0 ≤ x1) && decide (x1 < (((List.length s1) : Nat) : Int))) then
      (s1[x1.toNat]?).bind fun e_ =>
      bif (decide (v2 = e_.1) && decide (v3 = e_.2)) then
        r0 x1
      else
        G2 k x (w64 (x1 + 1)) s1 v2 v3 b0 r0
    else
      none
  else
    b0 x x1 s1 v2 v3
theorem h52_g2 {α : Type} (G2 : T42 α) (n : Nat) : GenL (α := α) Try.prog Try.f52 S38 (h52_x G2 n) 2 h52_t2 h52_p2 n G2 (h52_b2 G2) := by intro _ _ _ _ _ _ _; kernel_rfl
def h52_b {α : Type} (G2 : T42 α) (k : Nat) (s : List (Int × Int)) (v : Int) (v1 : Int) (r0 : Int → Option α) : Option α :=
  G2 k (((List.length s) : Nat) : Int) 0 s v v1
    (fun _ _ _ _ _ =>
      r0 (-1))
    r0
theorem h52_g {α : Type} (G2 : T42 α) (n : Nat) : GenF (α := α) Try.prog Try.f52 S38 (h52_x G2 n) n (h52_b G2) := by intro _ _ _ _; kernel_rfl
theorem h52_good {α : Type} : ∀ n, GoodFn (α := α) Try.prog 52 (byShape S38.sh (callS S38 slices_Index_impl_Point_impl_Point n)) := good_of Try.func52 (by kernel_rfl) (by kernel_rfl) (by kernel_rfl) eqs_ok (fun n => h52_g slices_Index_impl_Point_impl_Point_l2 n) (by delta h52_b slices_Index_impl_Point_impl_Point; rfl) allN (allC (loop_fine (by kernel_rfl) (fun n => by delta h52_b2; funext _ _ _ _ _ _ _; exact (slices_Index_impl_Point_impl_Point_l2.eq_2 ..).symm) (fun n => h52_g2 slices_Index_impl_Point_impl_Point_l2 n)) allN)

/-! loop.example/g01297/impl.PlaceOnSail -/
abbrev h23_x {α : Type} (F0 : T23 α) (F1 : T15 α) (F2 : T24 α) (F3 : T43 α) : Nat → Ctx α := ctxS M eqs jt0 [⟨9, S21, F0⟩, ⟨43, S15, F1⟩, ⟨48, S23, F2⟩, ⟨52, S38, F3⟩] []
def h23_b {α : Type} (F0 : T23 α) (F1 : T15 α) (F2 : T24 α) (F3 : T43 α) (k : Nat) (a : Int) (a1 : Int) (b_ : Int) (b_1 : Int) (c : Int) (c1 : Int) (r0 : Int → Int → Option α) : Option α :=
  F0 k a a1 b_ b_1 fun v =>
  bif (!v) then
    r0 0 1
  else
    F1 k c c1 fun v1 =>
    bif (!v1) then
      r0 0 1
    else
      F2 k a a1 b_ b_1
        (fun v2 =>
          bif (!decide (v2 = 0)) then
            r0 0 v2
          else
            none)
        (fun v3 _ v5 =>
          bif (!decide (v5 = 0)) then
            r0 0 v5
          else
            F3 k v3 c c1 fun v6 =>
            bif decide (v6 < 0) then
              r0 0 4
            else
              r0 v6 0)
theorem h23_g {α : Type} (F0 : T23 α) (F1 : T15 α) (F2 : T24 α) (F3 : T43 α) (n : Nat) : GenF (α := α) Try.prog Try.f23 S39 (h23_x F0 F1 F2 F3 n) n (h23_b F0 F1 F2 F3) := by intro _ _ _ _ _ _ _; kernel_rfl
theorem h23_good {α : Type} : ∀ n, GoodFn (α := α) Try.prog 23 (byShape S39.sh (callS S39 impl_PlaceOnSail n)) := good_of Try.func23 (by kernel_rfl) (by kernel_rfl) (by kernel_rfl) eqs_ok (fun n => h23_g impl_IsAngle impl_IsPoint impl_sailOf slices_Index_impl_Point_impl_Point n) (by delta h23_b impl_PlaceOnSail; rfl) (allC h9_good (allC h43_good (allC h48_good (allC h52_good allN)))) allN

/-! loop.example/g01297/spec.PlaceOnSail -/
def h24_t7 : Tpl := ⟨(anyN 5 (.ptr 320 0 0 :: (.any :: (.any :: (.sl 1152 :: (.any :: (.any :: (.int .i64 :: (anyN 26 []))))))))), [(320, .ints 2 25 .i64 2), (1152, .rows 2 25 .pt)], [(8, 1152, 25, .pt)]⟩
def h24_p7 : PcS := loopS [.int, .int, .int, .rows .pt] [0]
abbrev h24_x {α : Type} (F0 : T15 α) (F1 : T24 α) (G7 : T44 α) : Nat → Ctx α := ctxS M eqs jt0 [⟨49, S15, F0⟩, ⟨35, S26, F1⟩] [lpT 7 h24_t7 h24_p7 R12 G7]
def h24_b7 {α : Type} (G7 : T44 α) (k : Nat) (i : Int) (c2 : Int) (c3 : Int) (points : List (Int × Int)) (b0 : Int → Int → Int → (List (Int × Int)) → Option α) (r0 : Int → Int → Option α) : Option α :=
  bif decide (i < (((List.length points) : Nat) : Int)) then
    bif (decide (0 ≤ i) && decide (i < (((List.length points) : Nat) : Int))) then
      (points[i.toNat]?).bind fun e_ =>
      bif (decide (e_.1 = c2) && decide (e_.2 = c3)) then
        r0 i 0
      else
        G7 k (w64 (i + 1)) c2 c3 points b0 r0
    else
      none
  else
    b0 i c2 c3 points
theorem h24_g7 {α : Type} (F0 : T15 α) (F1 : T24 α) (G7 : T44 α) (n : Nat) : GenL (α := α) Try.prog Try.f24 S39 (h24_x F0 F1 G7 n) 7 h24_t7 h24_p7 n G7 (h24_b7 G7) := by intro _ _ _ _ _ _; kernel_rfl
def h24_b {α : Type} (F0 : T15 α) (F1 : T24 α) (G7 : T44 α) (k : Nat) (a : Int) (a1 : Int) (b_ : Int) (b_1 : Int) (c : Int) (c1 : Int) (r0 : Int → Int → Option α) : Option α :=
  F0 k c c1 fun v =>
  bif (!v) then
    r0 0 1
  else
    F1 k a a1 b_ b_1
      (fun v1 =>
        bif (!decide (v1 = 0)) then
          r0 0 v1
        else
          G7 k 0 c c1 []
            (fun _ _ _ _ =>
              r0 0 4)
            r0)
      (fun v2 _ v4 =>
        bif (!decide (v4 = 0)) then
          r0 0 v4
        else
          G7 k 0 c c1 v2
            (fun _ _ _ _ =>
              r0 0 4)
            r0)
theorem h24_g {α : Type} (F0 : T15 α) (F1 : T24 α) (G7 : T44 α) (n : Nat) : GenF (α := α) Try.prog Try.f24 S39 (h24_x F0 F1 G7 n) n (h24_b F0 F1 G7) := by intro _ _ _ _ _ _ _; kernel_rfl
theorem h24_good {α : Type} : ∀ n, GoodFn (α := α) Try.prog 24 (byShape S39.sh (callS S39 spec_PlaceOnSail n)) := good_of Try.func24 (by kernel_rfl) (by kernel_rfl) (by kernel_rfl) eqs_ok (fun n => h24_g spec_l01Is spec_l03Code spec_PlaceOnSail_l7 n) (by delta h24_b spec_PlaceOnSail; rfl) (allC h49_good (allC h35_good allN)) (allC (loop_fine (by kernel_rfl) (fun n => by delta h24_b7; funext _ _ _ _ _ _; exact (spec_PlaceOnSail_l7.eq_2 ..).symm) (fun n => h24_g7 spec_l01Is spec_l03Code spec_PlaceOnSail_l7 n)) allN)

/-! loop.example/g01297/spec.DrawAdjacentAngle -/
abbrev h25_x {α : Type} (F0 : T11 α) (F1 : T12 α) : Nat → Ctx α := ctxS M eqs jt0 [⟨33, S1, F0⟩, ⟨32, S11, F1⟩] []
def h25_b {α : Type} (F0 : T11 α) (F1 : T12 α) (k : Nat) (code : List Int) (r0 : Int → Int → Int → Int → Option α) : Option α :=
  F0 k code fun v v1 =>
  F1 k code v v1 fun v2 v3 v4 v5 _ _ =>
  r0 v2 v3 v4 v5
theorem h25_g {α : Type} (F0 : T11 α) (F1 : T12 α) (n : Nat) : GenF (α := α) Try.prog Try.f25 S12 (h25_x F0 F1 n) n (h25_b F0 F1) := by intro _ _; kernel_rfl
theorem h25_good {α : Type} : ∀ n, GoodFn (α := α) Try.prog 25 (byShape S12.sh (callS S12 spec_DrawAdjacentAngle n)) := good_of Try.func25 (by kernel_rfl) (by kernel_rfl) (by kernel_rfl) eqs_ok (fun n => h25_g spec_l01From spec_l03Draw n) (by delta h25_b spec_DrawAdjacentAngle; rfl) (allC h33_good (allC h32_good allN)) allN

/-! loop.example/g01297/impl.AdjacentAngle -/
abbrev h26_x {α : Type} (F0 : T23 α) (F1 : T21 α) : Nat → Ctx α := ctxS M eqs jt0 [⟨9, S21, F0⟩, ⟨45, S22, F1⟩] []
def h26_b {α : Type} (F0 : T23 α) (F1 : T21 α) (k : Nat) (a : Int) (a1 : Int) (b_ : Int) (b_1 : Int) (r0 : Int → Option α) (r1 : (List (Int × Int)) → Int → Option α) : Option α :=
  F0 k a a1 b_ b_1 fun v =>
  bif (!v) then
    r0 1
  else
    F1 k 0 0 a a1 fun v1 v2 =>
    r1 [(b_, b_1), (v1, v2)] 0
theorem h26_g {α : Type} (F0 : T23 α) (F1 : T21 α) (n : Nat) : GenF (α := α) Try.prog Try.f26 S24 (h26_x F0 F1 n) n (h26_b F0 F1) := by intro _ _ _ _ _; kernel_rfl
theorem h26_good {α : Type} : ∀ n, GoodFn (α := α) Try.prog 26 (byShape S24.sh (callS S24 impl_AdjacentAngle n)) := good_of Try.func26 (by kernel_rfl) (by kernel_rfl) (by kernel_rfl) eqs_ok (fun n => h26_g impl_IsAngle impl_Point_less n) (by delta h26_b impl_AdjacentAngle; rfl) (allC h9_good (allC h45_good allN)) allN

/-! loop.example/g01297/spec.AdjacentAngle -/
abbrev h27_x {α : Type} (F0 : T23 α) : Nat → Ctx α := ctxS M eqs jt0 [⟨39, S21, F0⟩] []
def h27_b {α : Type} (F0 : T23 α) (k : Nat) (a : Int) (a1 : Int) (b_ : Int) (b_1 : Int) (r0 : Int → Option α) (r1 : (List (Int × Int)) → Int → Option α) : Option α :=
  F0 k a a1 b_ b_1 fun v =>
  bif (!v) then
    r0 1
  else
    r1 [(b_, b_1), ((w64 (0 - a)), (w64 (0 - a1)))] 0
theorem h27_g {α : Type} (F0 : T23 α) (n : Nat) : GenF (α := α) Try.prog Try.f27 S24 (h27_x F0 n) n (h27_b F0) := by intro _ _ _ _ _; kernel_rfl
theorem h27_good {α : Type} : ∀ n, GoodFn (α := α) Try.prog 27 (byShape S24.sh (callS S24 spec_AdjacentAngle n)) := good_of Try.func27 (by kernel_rfl) (by kernel_rfl) (by kernel_rfl) eqs_ok (fun n => h27_g spec_l03Is n) (by delta h27_b spec_AdjacentAngle; rfl) (allC h39_good allN) allN

/-! loop.example/g01297/spec.DrawIsInAngle -/
abbrev h28_x {α : Type} (F0 : T38 α) : Nat → Ctx α := ctxS M eqs jt0 [⟨47, S35, F0⟩] []
def h28_b {α : Type} (F0 : T38 α) (k : Nat) (code : List Int) (r0 : Int → Int → Int → Int → Int → Int → Option α) : Option α :=
  F0 k code fun v v1 v2 v3 v4 v5 =>
  r0 v v1 v2 v3 v4 v5
theorem h28_g {α : Type} (F0 : T38 α) (n : Nat) : GenF (α := α) Try.prog Try.f28 S35 (h28_x F0 n) n (h28_b F0) := by intro _ _; kernel_rfl
theorem h28_good {α : Type} : ∀ n, GoodFn (α := α) Try.prog 28 (byShape S35.sh (callS S35 spec_DrawIsInAngle n)) := good_of Try.func28 (by kernel_rfl) (by kernel_rfl) (by kernel_rfl) eqs_ok (fun n => h28_g spec_l03With n) (by delta h28_b spec_DrawIsInAngle; rfl) (allC h47_good allN) allN

/-! loop.example/g01297/impl.IsInAngle -/
abbrev h16_x {α : Type} (F0 : T23 α) (F1 : T15 α) (F2 : T39 α) : Nat → Ctx α := ctxS M eqs jt0 [⟨9, S21, F0⟩, ⟨43, S15, F1⟩, ⟨44, S36, F2⟩] []
def h16_b {α : Type} (F0 : T23 α) (F1 : T15 α) (F2 : T39 α) (k : Nat) (a : Int) (a1 : Int) (b_ : Int) (b_1 : Int) (c : Int) (c1 : Int) (r0 : Bool → Int → Option α) : Option α :=
  F0 k a a1 b_ b_1 fun v =>
  bif (!v) then
    r0 false 1
  else
    F1 k c c1 fun v1 =>
    bif (!v1) then
      r0 false 1
    else
      F2 k a a1 b_ b_1 c c1 fun v2 =>
      r0 v2 0
theorem h16_g {α : Type} (F0 : T23 α) (F1 : T15 α) (F2 : T39 α) (n : Nat) : GenF (α := α) Try.prog Try.f16 S40 (h16_x F0 F1 F2 n) n (h16_b F0 F1 F2) := by intro _ _ _ _ _ _ _; kernel_rfl
theorem h16_good {α : Type} : ∀ n, GoodFn (α := α) Try.prog 16 (byShape S40.sh (callS S40 impl_IsInAngle n)) := good_of Try.func16 (by kernel_rfl) (by kernel_rfl) (by kernel_rfl) eqs_ok (fun n => h16_g impl_IsAngle impl_IsPoint impl_inAngle n) (by delta h16_b impl_IsInAngle; rfl) (allC h9_good (allC h43_good (allC h44_good allN))) allN

/-! loop.example/g01297/spec.IsInAngle -/
abbrev h29_x {α : Type} (F0 : T23 α) (F1 : T15 α) (F2 : T39 α) : Nat → Ctx α := ctxS M eqs jt0 [⟨39, S21, F0⟩, ⟨49, S15, F1⟩, ⟨50, S36, F2⟩] []
def h29_b {α : Type} (F0 : T23 α) (F1 : T15 α) (F2 : T39 α) (k : Nat) (a : Int) (a1 : Int) (b_ : Int) (b_1 : Int) (c : Int) (c1 : Int) (r0 : Bool → Int → Option α) : Option α :=
  F0 k a a1 b_ b_1 fun v =>
  bif (!v) then
    r0 false 1
  else
    F1 k c c1 fun v1 =>
    bif (!v1) then
      r0 false 1
    else
      F2 k a a1 b_ b_1 c c1 fun v2 =>
      r0 v2 0
theorem h29_g {α : Type} (F0 : T23 α) (F1 : T15 α) (F2 : T39 α) (n : Nat) : GenF (α := α) Try.prog Try.f29 S40 (h29_x F0 F1 F2 n) n (h29_b F0 F1 F2) := by intro _ _ _ _ _ _ _; kernel_rfl
theorem h29_good {α : Type} : ∀ n, GoodFn (α := α) Try.prog 29 (byShape S40.sh (callS S40 spec_IsInAngle n)) := good_of Try.func29 (by kernel_rfl) (by kernel_rfl) (by kernel_rfl) eqs_ok (fun n => h29_g spec_l03Is spec_l01Is spec_l03Inside n) (by delta h29_b spec_IsInAngle; rfl) (allC h39_good (allC h49_good (allC h50_good allN))) allN

/-! loop.example/g01297/spec.DrawSailVertices -/
abbrev h30_x {α : Type} (F0 : T11 α) (F1 : T12 α) : Nat → Ctx α := ctxS M eqs jt0 [⟨33, S1, F0⟩, ⟨32, S11, F1⟩] []
def h30_b {α : Type} (F0 : T11 α) (F1 : T12 α) (k : Nat) (code : List Int) (r0 : Int → Int → Int → Int → Option α) : Option α :=
  F0 k code fun v v1 =>
  F1 k code v v1 fun v2 v3 v4 v5 _ _ =>
  r0 v2 v3 v4 v5
theorem h30_g {α : Type} (F0 : T11 α) (F1 : T12 α) (n : Nat) : GenF (α := α) Try.prog Try.f30 S12 (h30_x F0 F1 n) n (h30_b F0 F1) := by intro _ _; kernel_rfl
theorem h30_good {α : Type} : ∀ n, GoodFn (α := α) Try.prog 30 (byShape S12.sh (callS S12 spec_DrawSailVertices n)) := good_of Try.func30 (by kernel_rfl) (by kernel_rfl) (by kernel_rfl) eqs_ok (fun n => h30_g spec_l01From spec_l03Draw n) (by delta h30_b spec_DrawSailVertices; rfl) (allC h33_good (allC h32_good allN)) allN

/-! loop.example/g01297/spec.SailVertices -/
def h31_t6 : Tpl := ⟨(anyN 6 (.sl 896 :: (.sl 897 :: (.any :: (.sl 1344 :: (.int .i64 :: (anyN 41 []))))))), [(896, .rows 2 25 .pt), (897, .rows 2 2 (.int .i64)), (1344, .rows 2 25 .pt)], [(6, 896, 25, .pt), (7, 897, 2, (.int .i64))]⟩
def h31_p6 : PcS := loopS [.int, .rows .pt, .rows (.int .i64), .rows .pt] [0]
abbrev h31_x {α : Type} (F0 : T24 α) (G6 : T45 α) : Nat → Ctx α := ctxS M eqs jt0 [⟨35, S26, F0⟩] [lpT 6 h31_t6 h31_p6 R9 G6]
def h31_b6 {α : Type} (G6 : T45 α) (k : Nat) (i : Int) (points : List (Int × Int)) (numbers : List Int) (out : List (Int × Int)) (b0 : Int → (List (Int × Int)) → List Int → (List (Int × Int)) → Option α) (r0 : Int → Option α) (r1 : (List (Int × Int)) → Int → Option α) : Option α :=
  bif decide (i < (((List.length points) : Nat) : Int)) then
    bif decide (i = 0) then
      bif (decide (0 ≤ i) && decide (i < (((List.length points) : Nat) : Int))) then
        (points[i.toNat]?).bind fun e_ =>
        bif decide (((List.length out) + 1) ≤ big) then
          G6 k (w64 (i + 1)) points numbers (out ++ [(e_.1, e_.2)]) b0 r0 r1
        else
          none
      else
        none
    else
    bif decide (i = (w64 ((((List.length points) : Nat) : Int) - 1))) then
      bif (decide (0 ≤ i) && decide (i < (((List.length points) : Nat) : Int))) then
        (points[i.toNat]?).bind fun e_1 =>
        bif decide (((List.length out) + 1) ≤ big) then
          G6 k (w64 (i + 1)) points numbers (out ++ [(e_1.1, e_1.2)]) b0 r0 r1
        else
          none
      else
        none
    else
    bif (decide (0 ≤ i) && decide (i < (((List.length numbers) : Nat) : Int))) then
      (numbers[i.toNat]?).bind fun e_2 =>
      bif decide (2 < e_2) then
        bif (decide (0 ≤ i) && decide (i < (((List.length points) : Nat) : Int))) then
          (points[i.toNat]?).bind fun e_3 =>
          bif decide (((List.length out) + 1) ≤ big) then
            G6 k (w64 (i + 1)) points numbers (out ++ [(e_3.1, e_3.2)]) b0 r0 r1
          else
            none
        else
          none
      else
        G6 k (w64 (i + 1)) points numbers out b0 r0 r1
    else
      none
  else
    b0 i points numbers out
theorem h31_g6 {α : Type} (F0 : T24 α) (G6 : T45 α) (n : Nat) : GenL (α := α) Try.prog Try.f31 S24 (h31_x F0 G6 n) 6 h31_t6 h31_p6 n G6 (h31_b6 G6) := by intro _ _ _ _ _ _; kernel_rfl
def h31_b {α : Type} (F0 : T24 α) (G6 : T45 α) (k : Nat) (a : Int) (a1 : Int) (b_ : Int) (b_1 : Int) (r0 : Int → Option α) (r1 : (List (Int × Int)) → Int → Option α) : Option α :=
  F0 k a a1 b_ b_1
    (fun v =>
      bif (!decide (v = 0)) then
        r0 v
      else
        G6 k 0 [] [] []
          (fun _ _ _ out1 =>
            r1 out1 0)
          r0 r1)
    (fun v1 v2 v3 =>
      bif (!decide (v3 = 0)) then
        r0 v3
      else
        G6 k 0 v1 v2 []
          (fun _ _ _ out2 =>
            r1 out2 0)
          r0 r1)
theorem h31_g {α : Type} (F0 : T24 α) (G6 : T45 α) (n : Nat) : GenF (α := α) Try.prog Try.f31 S24 (h31_x F0 G6 n) n (h31_b F0 G6) := by intro _ _ _ _ _; kernel_rfl
theorem h31_good {α : Type} : ∀ n, GoodFn (α := α) Try.prog 31 (byShape S24.sh (callS S24 spec_SailVertices n)) := good_of Try.func31 (by kernel_rfl) (by kernel_rfl) (by kernel_rfl) eqs_ok (fun n => h31_g spec_l03Code spec_SailVertices_l6 n) (by delta h31_b spec_SailVertices; rfl) (allC h35_good allN) (allC (loop_fine (by kernel_rfl) (fun n => by delta h31_b6; funext _ _ _ _ _ _ _; exact (spec_SailVertices_l6.eq_2 ..).symm) (fun n => h31_g6 spec_l03Code spec_SailVertices_l6 n)) allN)

/-! loop.example/g01297/laws.points5 -/
abbrev h8a_x {α : Type}  : Nat → Ctx α := ctxS M eqs jt0 [] []
def h8a_b {α : Type}  (_ : Nat) (b_ : List (Int × Int)) (r0 : Bool → Option α) : Option α :=
  bif (!decide (0 = (((List.length b_) : Nat) : Int))) then
    r0 false
  else
    r0 true
theorem h8a_g {α : Type}  (n : Nat) : GenF (α := α) Try.prog Try.f8 S41 (h8a_x n) n (h8a_b) := by intro _ _; kernel_rfl
theorem h8a_good {α : Type} : ∀ n, GoodFn (α := α) Try.prog 8 (byShape S41.sh (callS S41 laws_points5_0N n)) := good_of Try.func8 (by kernel_rfl) (by kernel_rfl) (by kernel_rfl) eqs_ok (fun n => h8a_g n) (by delta h8a_b laws_points5_0N; rfl) allN allN

/-! loop.example/g01297/laws.points5 -/
def h8b_t4 : Tpl := ⟨(.sl 0 :: (.nilsl :: (.any :: (.any :: (.any :: (.int .i64 :: (anyN 20 []))))))), [(0, .rows 0 25 .pt)], []⟩
def h8b_p4 : PcS := loopS [.int, .rows .pt] [0]
abbrev h8b_x {α : Type} (G4 : T46 α) : Nat → Ctx α := ctxS M eqs jt0 [] [lpT 4 h8b_t4 h8b_p4 R0 G4]
def h8b_b4 {α : Type}  (_ : Nat) (i : Int) (a1 : List (Int × Int)) (b0 : Int → (List (Int × Int)) → Option α) (_ : Bool → Option α) : Option α :=
  bif decide (i < (((List.length a1) : Nat) : Int)) then
    bif (decide (0 ≤ i) && decide (i < (((List.length a1) : Nat) : Int))) then
      (a1[i.toNat]?).bind fun _ =>
      none
    else
      none
  else
    b0 i a1
theorem h8b_g4 {α : Type} (G4 : T46 α) (n : Nat) : GenL (α := α) Try.prog Try.f8 S42 (h8b_x G4 n) 4 h8b_t4 h8b_p4 n G4 (h8b_b4) := by intro _ _ _ _; kernel_rfl
def h8b_b {α : Type} (G4 : T46 α) (k : Nat) (a : List (Int × Int)) (r0 : Bool → Option α) : Option α :=
  bif (!decide ((((List.length a) : Nat) : Int) = 0)) then
    r0 false
  else
    G4 k 0 a
      (fun _ _ =>
        r0 true)
      r0
theorem h8b_g {α : Type} (G4 : T46 α) (n : Nat) : GenF (α := α) Try.prog Try.f8 S42 (h8b_x G4 n) n (h8b_b G4) := by intro _ _; kernel_rfl
theorem h8b_good {α : Type} : ∀ n, GoodFn (α := α) Try.prog 8 (byShape S42.sh (callS S42 laws_points5_1N n)) := good_of Try.func8 (by kernel_rfl) (by kernel_rfl) (by kernel_rfl) eqs_ok (fun n => h8b_g laws_points5_1N_l4 n) (by delta h8b_b laws_points5_1N; rfl) allN (allC (loop_fine (by kernel_rfl) (fun n => by delta h8b_b4; funext _ _ _ _; exact (laws_points5_1N_l4.eq_2 ..).symm) (fun n => h8b_g4 laws_points5_1N_l4 n)) allN)

/-! loop.example/g01297/laws.points5 -/
def h8c_t4 : Tpl := ⟨(.sl 0 :: (.sl 64 :: (.any :: (.any :: (.any :: (.int .i64 :: (anyN 20 []))))))), [(0, .rows 0 25 .pt), (64, .rows 0 25 .pt)], []⟩
def h8c_p4 : PcS := loopS [.int, .rows .pt, .rows .pt] [0]
abbrev h8c_x {α : Type} (G4 : T47 α) : Nat → Ctx α := ctxS M eqs jt0 [] [lpT 4 h8c_t4 h8c_p4 R0 G4]
def h8c_b4 {α : Type} (G4 : T47 α) (k : Nat) (i : Int) (a1 : List (Int × Int)) (b_1 : List (Int × Int)) (b0 : Int → (List (Int × Int)) → (List (Int × Int)) → Option α) (r0 : Bool → Option α) : Option α :=
  bif decide (i < (((List.length a1) : Nat) : Int)) then
    bif (decide (0 ≤ i) && decide (i < (((List.length a1) : Nat) : Int))) then
      (a1[i.toNat]?).bind fun e_ =>
      bif (decide (0 ≤ i) && decide (i < (((List.length b_1) : Nat) : Int))) then
        (b_1[i.toNat]?).bind fun e_1 =>
        bif (!(decide (e_.1 = e_1.1) && decide (e_.2 = e_1.2))) then
          r0 false
        else
          G4 k (w64 (i + 1)) a1 b_1 b0 r0
      else
        none
    else
      none
  else
    b0 i a1 b_1
theorem h8c_g4 {α : Type} (G4 : T47 α) (n : Nat) : GenL (α := α) Try.prog Try.f8 S43 (h8c_x G4 n) 4 h8c_t4 h8c_p4 n G4 (h8c_b4 G4) := by intro _ _ _ _ _; kernel_rfl
def h8c_b {α : Type} (G4 : T47 α) (k : Nat) (a : List (Int × Int)) (b_ : List (Int × Int)) (r0 : Bool → Option α) : Option α :=
  bif (!decide ((((List.length a) : Nat) : Int) = (((List.length b_) : Nat) : Int))) then
    r0 false
  else
    G4 k 0 a b_
      (fun _ _ _ =>
        r0 true)
      r0
theorem h8c_g {α : Type} (G4 : T47 α) (n : Nat) : GenF (α := α) Try.prog Try.f8 S43 (h8c_x G4 n) n (h8c_b G4) := by intro _ _ _; kernel_rfl
theorem h8c_good {α : Type} : ∀ n, GoodFn (α := α) Try.prog 8 (byShape S43.sh (callS S43 laws_points5 n)) := good_of Try.func8 (by kernel_rfl) (by kernel_rfl) (by kernel_rfl) eqs_ok (fun n => h8c_g laws_points5_l4 n) (by delta h8c_b laws_points5; rfl) allN (allC (loop_fine (by kernel_rfl) (fun n => by delta h8c_b4; funext _ _ _ _ _; exact (laws_points5_l4.eq_2 ..).symm) (fun n => h8c_g4 laws_points5_l4 n)) allN)

/-! loop.example/g01297/laws.likeInts -/
abbrev h21a_x {α : Type}  : Nat → Ctx α := ctxS M eqs jt0 [] []
def h21a_b {α : Type}  (_ : Nat) (b_ : List Int) (r0 : Bool → Option α) : Option α :=
  bif (!decide (0 = (((List.length b_) : Nat) : Int))) then
    r0 false
  else
    r0 true
theorem h21a_g {α : Type}  (n : Nat) : GenF (α := α) Try.prog Try.f21 S44 (h21a_x n) n (h21a_b) := by intro _ _; kernel_rfl
theorem h21a_good {α : Type} : ∀ n, GoodFn (α := α) Try.prog 21 (byShape S44.sh (callS S44 laws_likeInts_0N n)) := good_of Try.func21 (by kernel_rfl) (by kernel_rfl) (by kernel_rfl) eqs_ok (fun n => h21a_g n) (by delta h21a_b laws_likeInts_0N; rfl) allN allN

/-! loop.example/g01297/laws.likeInts -/
def h21b_t4 : Tpl := ⟨(.sl 0 :: (.nilsl :: (.any :: (.any :: (.any :: (.int .i64 :: (anyN 20 []))))))), [(0, .rows 0 2 (.int .i64))], []⟩
def h21b_p4 : PcS := loopS [.int, .rows (.int .i64)] [0]
abbrev h21b_x {α : Type} (G4 : T48 α) : Nat → Ctx α := ctxS M eqs jt0 [] [lpT 4 h21b_t4 h21b_p4 R0 G4]
def h21b_b4 {α : Type}  (_ : Nat) (i : Int) (a1 : List Int) (b0 : Int → List Int → Option α) (_ : Bool → Option α) : Option α :=
  bif decide (i < (((List.length a1) : Nat) : Int)) then
    bif (decide (0 ≤ i) && decide (i < (((List.length a1) : Nat) : Int))) then
      (a1[i.toNat]?).bind fun _ =>
      none
    else
      none
  else
    b0 i a1
theorem h21b_g4 {α : Type} (G4 : T48 α) (n : Nat) : GenL (α := α) Try.prog Try.f21 S45 (h21b_x G4 n) 4 h21b_t4 h21b_p4 n G4 (h21b_b4) := by intro _ _ _ _; kernel_rfl
def h21b_b {α : Type} (G4 : T48 α) (k : Nat) (a : List Int) (r0 : Bool → Option α) : Option α :=
  bif (!decide ((((List.length a) : Nat) : Int) = 0)) then
    r0 false
  else
    G4 k 0 a
      (fun _ _ =>
        r0 true)
      r0
theorem h21b_g {α : Type} (G4 : T48 α) (n : Nat) : GenF (α := α) Try.prog Try.f21 S45 (h21b_x G4 n) n (h21b_b G4) := by intro _ _; kernel_rfl
theorem h21b_good {α : Type} : ∀ n, GoodFn (α := α) Try.prog 21 (byShape S45.sh (callS S45 laws_likeInts_1N n)) := good_of Try.func21 (by kernel_rfl) (by kernel_rfl) (by kernel_rfl) eqs_ok (fun n => h21b_g laws_likeInts_1N_l4 n) (by delta h21b_b laws_likeInts_1N; rfl) allN (allC (loop_fine (by kernel_rfl) (fun n => by delta h21b_b4; funext _ _ _ _; exact (laws_likeInts_1N_l4.eq_2 ..).symm) (fun n => h21b_g4 laws_likeInts_1N_l4 n)) allN)

/-! loop.example/g01297/laws.likeInts -/
def h21c_t4 : Tpl := ⟨(.sl 0 :: (.sl 64 :: (.any :: (.any :: (.any :: (.int .i64 :: (anyN 20 []))))))), [(0, .rows 0 2 (.int .i64)), (64, .rows 0 2 (.int .i64))], []⟩
def h21c_p4 : PcS := loopS [.int, .rows (.int .i64), .rows (.int .i64)] [0]
abbrev h21c_x {α : Type} (G4 : T49 α) : Nat → Ctx α := ctxS M eqs jt0 [] [lpT 4 h21c_t4 h21c_p4 R0 G4]
def h21c_b4 {α : Type} (G4 : T49 α) (k : Nat) (i : Int) (a1 : List Int) (b_1 : List Int) (b0 : Int → List Int → List Int → Option α) (r0 : Bool → Option α) : Option α :=
  bif decide (i < (((List.length a1) : Nat) : Int)) then
    bif (decide (0 ≤ i) && decide (i < (((List.length a1) : Nat) : Int))) then
      (a1[i.toNat]?).bind fun e_ =>
      bif (decide (0 ≤ i) && decide (i < (((List.length b_1) : Nat) : Int))) then
        (b_1[i.toNat]?).bind fun e_1 =>
        bif (!decide (e_ = e_1)) then
          r0 false
        else
          G4 k (w64 (i + 1)) a1 b_1 b0 r0
      else
        none
    else
      none
  else
    b0 i a1 b_1
theorem h21c_g4 {α : Type} (G4 : T49 α) (n : Nat) : GenL (α := α) Try.prog Try.f21 S46 (h21c_x G4 n) 4 h21c_t4 h21c_p4 n G4 (h21c_b4 G4) := by intro _ _ _ _ _; kernel_rfl
def h21c_b {α : Type} (G4 : T49 α) (k : Nat) (a : List Int) (b_ : List Int) (r0 : Bool → Option α) : Option α :=
  bif (!decide ((((List.length a) : Nat) : Int) = (((List.length b_) : Nat) : Int))) then
    r0 false
  else
    G4 k 0 a b_
      (fun _ _ _ =>
        r0 true)
      r0
theorem h21c_g {α : Type} (G4 : T49 α) (n : Nat) : GenF (α := α) Try.prog Try.f21 S46 (h21c_x G4 n) n (h21c_b G4) := by intro _ _ _; kernel_rfl
theorem h21c_good {α : Type} : ∀ n, GoodFn (α := α) Try.prog 21 (byShape S46.sh (callS S46 laws_likeInts n)) := good_of Try.func21 (by kernel_rfl) (by kernel_rfl) (by kernel_rfl) eqs_ok (fun n => h21c_g laws_likeInts_l4 n) (by delta h21c_b laws_likeInts; rfl) allN (allC (loop_fine (by kernel_rfl) (fun n => by delta h21c_b4; funext _ _ _ _ _; exact (laws_likeInts_l4.eq_2 ..).symm) (fun n => h21c_g4 laws_likeInts_l4 n)) allN)

/-! loop.example/g01297/laws.sum -/
abbrev h14_x {α : Type}  : Nat → Ctx α := ctxS M eqs jt0 [] []
def h14_b {α : Type}  (_ : Nat) (r0 : Int → Option α) : Option α :=
  r0 0
theorem h14_g {α : Type}  (n : Nat) : GenF (α := α) Try.prog Try.f14 S47 (h14_x n) n (h14_b) := by intro _; kernel_rfl
theorem h14_good {α : Type} : ∀ n, GoodFn (α := α) Try.prog 14 (byShape S47.sh (callS S47 laws_sum_0N n)) := good_of Try.func14 (by kernel_rfl) (by kernel_rfl) (by kernel_rfl) eqs_ok (fun n => h14_g n) (by delta h14_b laws_sum_0N; rfl) allN allN

/-! loop.example/g01297/laws.sum -/
def h14a_t3 : Tpl := ⟨(.sl 0 :: (.any :: (.any :: (.int .i64 :: (.int .i64 :: (anyN 13 [])))))), [(0, .rows 0 2 (.int .i64))], []⟩
def h14a_p3 : PcS := loopS [.int, .int, .rows (.int .i64)] [0]
abbrev h14a_x {α : Type} (G3 : T50 α) : Nat → Ctx α := ctxS M eqs jt0 [] [lpT 3 h14a_t3 h14a_p3 R4 G3]
def h14a_b3 {α : Type} (G3 : T50 α) (k : Nat) (n_ : Int) (i : Int) (list1 : List Int) (b0 : Int → Int → List Int → Option α) (r0 : Int → Option α) : Option α :=
  bif decide (i < (((List.length list1) : Nat) : Int)) then
    bif (decide (0 ≤ i) && decide (i < (((List.length list1) : Nat) : Int))) then
      (list1[i.toNat]?).bind fun e_ =>
      G3 k (w64 (n_ + e_)) (w64 (i + 1)) list1 b0 r0
    else
      none
  else
    b0 n_ i list1
theorem h14a_g3 {α : Type} (G3 : T50 α) (n : Nat) : GenL (α := α) Try.prog Try.f14 S48 (h14a_x G3 n) 3 h14a_t3 h14a_p3 n G3 (h14a_b3 G3) := by intro _ _ _ _ _; kernel_rfl
def h14a_b {α : Type} (G3 : T50 α) (k : Nat) (list : List Int) (r0 : Int → Option α) : Option α :=
  G3 k 0 0 list
    (fun n_1 _ _ =>
      r0 n_1)
    r0
theorem h14a_g {α : Type} (G3 : T50 α) (n : Nat) : GenF (α := α) Try.prog Try.f14 S48 (h14a_x G3 n) n (h14a_b G3) := by intro _ _; kernel_rfl
theorem h14a_good {α : Type} : ∀ n, GoodFn (α := α) Try.prog 14 (byShape S48.sh (callS S48 laws_sum n)) := good_of Try.func14 (by kernel_rfl) (by kernel_rfl) (by kernel_rfl) eqs_ok (fun n => h14a_g laws_sum_l3 n) (by delta h14a_b laws_sum; rfl) allN (allC (loop_fine (by kernel_rfl) (fun n => by delta h14a_b3; funext _ _ _ _ _; exact (laws_sum_l3.eq_2 ..).symm) (fun n => h14a_g3 laws_sum_l3 n)) allN)

/-! loop.example/g01297/impl.DeterminantOf -/
abbrev h15_x {α : Type} (F0 : T18 α) (F1 : T6 α) : Nat → Ctx α := ctxS M eqs jt0 [⟨36, S18, F0⟩, ⟨38, S7, F1⟩] []
def h15_b {α : Type} (F0 : T18 α) (F1 : T6 α) (k : Nat) (a : Int) (a1 : Int) (b_ : Int) (b_1 : Int) (r0 : Int → Int → Option α) : Option α :=
  F0 k [(a, a1), (b_, b_1)] fun v =>
  bif (!v) then
    r0 0 1
  else
    F1 k a a1 b_ b_1 fun v1 =>
    r0 v1 0
theorem h15_g {α : Type} (F0 : T18 α) (F1 : T6 α) (n : Nat) : GenF (α := α) Try.prog Try.f15 S28 (h15_x F0 F1 n) n (h15_b F0 F1) := by intro _ _ _ _ _; kernel_rfl
theorem h15_good {α : Type} : ∀ n, GoodFn (α := α) Try.prog 15 (byShape S28.sh (callS S28 impl_DeterminantOf n)) := good_of Try.func15 (by kernel_rfl) (by kernel_rfl) (by kernel_rfl) eqs_ok (fun n => h15_g impl_points impl_det n) (by delta h15_b impl_DeterminantOf; rfl) (allC h36_good (allC h38_good allN)) allN

/-! loop.example/g01297/impl.LengthOf -/
abbrev h17_x {α : Type} (F0 : T18 α) (F1 : T21 α) (F2 : T3 α) : Nat → Ctx α := ctxS M eqs jt0 [⟨36, S18, F0⟩, ⟨45, S22, F1⟩, ⟨46, S20, F2⟩] []
def h17_b {α : Type} (F0 : T18 α) (F1 : T21 α) (F2 : T3 α) (k : Nat) (a : Int) (a1 : Int) (b_ : Int) (b_1 : Int) (r0 : Int → Int → Option α) : Option α :=
  F0 k [(a, a1), (b_, b_1)] fun v =>
  bif (!v) then
    r0 0 1
  else
    F1 k b_ b_1 a a1 fun v1 v2 =>
    F2 k v1 v2 fun v3 =>
    r0 v3 0
theorem h17_g {α : Type} (F0 : T18 α) (F1 : T21 α) (F2 : T3 α) (n : Nat) : GenF (α := α) Try.prog Try.f17 S28 (h17_x F0 F1 F2 n) n (h17_b F0 F1 F2) := by intro _ _ _ _ _; kernel_rfl
theorem h17_good {α : Type} : ∀ n, GoodFn (α := α) Try.prog 17 (byShape S28.sh (callS S28 impl_LengthOf n)) := good_of Try.func17 (by kernel_rfl) (by kernel_rfl) (by kernel_rfl) eqs_ok (fun n => h17_g impl_points impl_Point_less impl_Point_length n) (by delta h17_b impl_LengthOf; rfl) (allC h36_good (allC h45_good (allC h46_good allN))) allN

end Go.Proofs.Ytagbaokadelhaaa
